/- Contracts of functions of the program (JF, JG, P5, Over, P8, JH, PjS, JI, PjU, JJ, JK, J6, J9, JA, JB, J5): what each call answers and that it leaves memory as it was. Conditions: those each theorem names. -/
import Derived.Test.YtohkmggbfcnapaaGreatDoorCoreK
import Derived.Test.YtohkmggbfcnapaaGreatDoorBolE
import Derived.Test.YtohkmggbfcnapaaGreatDoorPjI
import Derived.Test.YtohkmggbfcnapaaGreatDoorStr
set_option linter.unusedSectionVars false
set_option linter.unusedSimpArgs false
set_option linter.unusedVariables false
set_option linter.unnecessarySimpa false
set_option maxHeartbeats 8000000
set_option maxRecDepth 20000
namespace Go.Proofs.YtohkmggbfcnapaaGreatDoor
open Go.Lx Go.RowKit _root_.Go.Proofs.Tryz
theorem stepC (w : World) [Tab Tryz.prog w] (a : DFA) (k : DK) (ha : At w a k) (hv : Valid a) (hn : a.next.length ≤ 64) (W : Nat) (hgW : Gd a W) (sb : Option Addr) (sc : Nat) (hs : Sl w sb (intN (elN W))) (x v : Nat) (hvv : v < a.vars.toNat) (hx : x < letN a) :
  PureT Tryz.prog 43 [dV a k, .slice sb (elN W).length sc, .int .u8 ((x : Nat) : Int), vI ((v : Nat) : Int)] w fun r N => ∃ b c, r = .slice b (elN (pst a v W x)).length c ∧ N = [rowI b c 3 1 (intN (elN (pst a v W x)))] := by
 refine CallT.enter func43 rfl ntmps43 rfl ?_
 have he := checkD_zero.2 hv
 have h4 := hv.n4
 have hww : letN a ≤ 64 := hv.width
 have hfin := hv.fin
 have hvl := ha.rows.1
 have hsl := start_lt hv.toVal
 have hs0 := hv.s0
 have hs1 := hv.s1
 have hgY : Gd a (pst a v W x) := hgW.step hv.toVal hn hvv hx
 have hel := elN_len W
 have hx64 : x < 64 := by omega
 obtain ⟨Y, hY⟩ : ∃ Y, pst a v W x = Y := ⟨_, rfl⟩
 rw [hY] at hgY
 have hv5 : v < 6 := by have := letN6 hv.toVal; omega
 have x0 : c0 v x < letN a := c0_lt hx
 have x1 : c1 v x < letN a := c1_lt (letN6 hv.toVal) hvv hx
 refine T.s (T.rg (TO.l rfl (l_box (v := (dV a k)) (cs := (dC a k)) rfl rfl (fun z1 => ?_))))
 refine TO.qa rfl (TO.nl (T.s (T.rg (TO.qa rfl (TO.nl (T.s (T.s (T.rg (TO.qa rfl (TO.nl (T.block (T.nilRow 3 1 ?_))))))))))))
 refine T.sub (O' := [rowI none 0 3 1 [], oI z1 25 (dC a k)]) (by exact Sub.rf) ?_
 refine T.loopS (fun (q : Nat) ρ O => ∃ (ob : Option Addr) (oc : Nat), O = [rowI ob oc 3 1 (intN (loF Y q)), oI z1 25 (dC a k)] ∧ q ≤ a.next.length ∧ Heads [(0, (dV a k)), (1, (.slice sb ((elN W).length) sc)), (2, .int .u8 ((x : Nat) : Int)), (3, vI ((v : Nat) : Int)), (4, (.pointer (aD z1))), (8, nS), (9, (.slice ob ((loF Y q).length) oc)), (10, vI ((q : Nat) : Int))] ρ) (fun q => a.next.length - q) 0 ?_ ?_
 ·exact ⟨none, 0, rfl, Nat.zero_le _, (.of rfl)⟩
 rintro q ρ O ⟨ob, oc, rfl, hq, hH⟩
 obtain ⟨ρ0, rfl⟩ := hH.elim
 clear hH
 refine T.s (T.s (T.rg (TO.qm rfl (TO.q (q_fa uT25 rfl inf22 rfl rfl) (TO.q (q_lb 1 uT22 rfl rfl rfl rfl) (TO.q (q_len uT22 rfl) (TO.q (q_lss rfl rfl) (TO.nl (T.condP rfl (fun hc => ?_) (fun hc => ?_))))))))))
 ·have hlt16 : q < a.next.length := by omega
  refine T.skip (T.s (T.block (T.s (T.rg (TO.qa rfl (TO.nl (T.block ?_)))))))
  have hz9 := stL_zero a v x W q
  rw [hY] at hz9
  refine T.loopS (fun (i : Nat) ρ O => ∃ (ob : Option Addr) (oc : Nat), O = [rowI ob oc 3 1 (intN (stL a v x W q i)), oI z1 25 (dC a k)] ∧ i ≤ (elN W).length ∧ Heads [(0, (dV a k)), (1, (.slice sb ((elN W).length) sc)), (2, .int .u8 ((x : Nat) : Int)), (3, vI ((v : Nat) : Int)), (4, (.pointer (aD z1))), (8, nS), (9, (.slice ob ((stL a v x W q i).length) oc)), (10, vI ((q : Nat) : Int)), (11, vI ((i : Nat) : Int))] ρ) (fun i => (elN W).length - i) 0 ?_ ?_
  ·exact ⟨ob, oc, by rw [hz9], Nat.zero_le _, ⟨rfl, rfl, rfl, rfl, rfl, rfl, (by rw [hz9]; rfl), rfl, rfl, trivial⟩⟩
  rintro i ρ O ⟨ob, oc, rfl, hi, hH⟩
  obtain ⟨ρ0, rfl⟩ := hH.elim
  clear hH
  refine T.s (T.s (T.rg (TO.qm rfl (TO.qm rfl (TO.q (q_len uT37 rfl) (TO.q (q_lss rfl rfl) (TO.nl (T.condP rfl (fun hc => ?_) (fun hc => ?_)))))))))
  ·have hlt22 : i < (elN W).length := by omega
   have hil : i < (elN W).length := by omega
   obtain ⟨s, hsi⟩ : ∃ s, (elN W)[i]? = some s := ⟨_, List.getElem?_eq_getElem hil⟩
   have hsl : s < a.next.length := hgW.st (List.mem_of_getElem? hsi)
   obtain ⟨v1, rc1, g1, s1⟩ := ha.rows.get hsl
   have hl1 : a.next[s].length = letN a := hv.len _ (List.getElem_mem hsl)
   have hlen := stL_len a v x W q i
   obtain ⟨_, _, hk0, hy0⟩ := hv.toN_lt hsl x0
   have hy0 : (ints a.next[s])[c0 v x]? = some (vI ((toN a s (c0 v x) : Nat) : Int)) := by rw [ints_get hk0, hy0]
   obtain ⟨_, _, hk1, hy1⟩ := hv.toN_lt hsl x1
   have hy1 : (ints a.next[s])[c1 v x]? = some (vI ((toN a s (c1 v x) : Nat) : Int)) := by rw [ints_get hk1, hy1]
   refine T.skip (T.s (T.block (T.s ?_)))
   refine T.draws _ [(0, 0), (1, 0), (2, 0), (3, 0), (4, 0), (5, 0), (6, 0), (7, 0), (8, 0), (9, 0), (13, 0), (10, 1), (11, 0), (12, 0), (14, 0), (15, 0), (16, 0), (17, 0), (18, 0), (19, 0), (20, 0), (21, 0), (22, 0), (23, 0), (24, 0), (25, 0), (29, 0), (26, 1), (27, 0), (28, 0), (30, 0), (31, 0), (32, 0), (33, 0), (34, 0), (35, 2), (36, 2), (37, 2)] mixed (drawF_ok (by kernel_rfl)) (Sub.of (List.Sublist.refl _)) (fun _ _ _ h => h) ?_
   refine DO.q rfl (q_fa uT25 rfl inf22 rfl rfl) (DO.q rfl (q_lb 1 uT22 rfl rfl rfl rfl) (DO.q rfl (q_move rfl) (DO.q rfl (q_move rfl) (DO.q rfl (q_ix (i := i) uT37 inf3 rfl rfl (Sl.o hs) hil (by rw [List.length_map]; exact hil)) (DO.q rfl (q_ld uT3 rfl rfl (Sl.o hs) (intN_at hsi)) (DO.q rfl (q_ix (i := s) uT22 inf37 rfl rfl (Sl.o ha.outer) hsl (hvl ▸ hsl)) (DO.q rfl (q_ld uT37 rfl rfl (Sl.o ha.outer) g1) (DO.q rfl (q_move rfl) (DO.q rfl (q_move rfl) (DO.q rfl (q_move rfl) ?_))))))))))
   have hk35 := fun (w1 : World) (hI : Inv w [rowI ob oc 3 1 (intN (stL a v x W q i)), oI z1 25 (dC a k)] w1) => (haveI := tbz hI; (show PureT _ _ _ _ _ from by
     have h9 := wthC w1 x v 0 hv5 hx64 (by decide)
     exact h9))
   refine DO.loud rfl rfl (l_call ent47 (CallT.op hk35) rfl ?_)
   clear hk35
   rintro vr O' ⟨N, rfl, rfl, rfl⟩
   refine ⟨by exact Sub.rf, ?_⟩
   refine DO.q rfl (q_ix (i := (c0 v x)) uT37 inf3 rfl rfl (Sl.o s1) hk0 (by rw [List.length_map]; exact hk0)) (DO.q rfl (q_ld uT3 rfl rfl (Sl.o s1) hy0) (DO.q rfl (QT.cast (q_eql rfl rfl) (v' := .bool (decide (toN a s (c0 v x) = q))) (congrArg Value.bool (decide_eq_decide.2 (by omega)))) ?_))
   by_cases hs40 : toN a s (c0 v x) = q
   ·refine DO.q rfl (QT.toB (q_move rfl) (decide_eq_true hs40)) ?_
    refine DO.passed rfl rfl rfl (DO.passed rfl rfl rfl (DO.passed rfl rfl rfl (DO.passed rfl rfl rfl (DO.passed rfl rfl rfl (DO.passed rfl rfl rfl (DO.passed rfl rfl rfl (DO.passed rfl rfl rfl ?_)))))))
    refine DO.passed rfl rfl rfl (DO.passed rfl rfl rfl (DO.passed rfl rfl rfl ?_))
    refine DO.passedL (by decide) rfl rfl rfl rfl rfl ?_
    refine DO.passed rfl rfl rfl (DO.passed rfl rfl rfl (DO.passed rfl rfl rfl (DO.q rfl (q_pick1 rfl rfl) (DO.q rfl (q_move rfl) ?_))))
    refine DO.guarded rfl rfl rfl (q_move rfl) ?_
    refine DO.guarded rfl rfl rfl (q_move rfl) ?_
    have hk60 := fun (w1 : World) (hI : Inv w [rowI ob oc 3 1 (intN (stL a v x W q i)), oI z1 25 (dC a k)] w1) => (haveI := tbz hI; (show PureT _ _ _ _ _ from by
      have h9 := hasInt w1 ob oc (zL (stL a v x W q i)) ((q : Nat) : Int) (by rw [ints_zL]; exact hI.slOf (mG 0 rfl)) (by rw [zL_len]; omega)
      rw [zL_len, show decide ((q : Int) ∈ zL (stL a v x W q i)) = decide (q ∈ stL a v x W q i) from decide_eq_decide.2 zL_mem] at h9
      exact h9))
    refine DO.lastG rfl rfl rfl rfl (l_call ent80 (CallT.op hk60) rfl ?_)
    clear hk60
    rintro vr O' ⟨N, rfl, rfl, rfl⟩
    refine DO.lastG rfl rfl rfl rfl (LT.oq rfl rfl (q_not rfl) ?_)
    refine DO.last rfl rfl (LT.oq rfl rfl (q_pick1 rfl rfl) ?_)
    refine DO.done ?_
    refine T.cond rfl (fun hc => ?_) (fun hc => ?_)
    ·have hno : q ∉ stL a v x W q i := by simpa using hc
     have hhit : toN a s (c0 v x) = q ∨ toN a s (c1 v x) = q := by omega
     refine T.reset [rowI ob oc 3 1 (intN (stL a v x W q i)), oI z1 25 (dC a k)] [(0, (dV a k)), (1, (.slice sb ((elN W).length) sc)), (2, .int .u8 ((x : Nat) : Int)), (3, vI ((v : Nat) : Int)), (4, (.pointer (aD z1))), (8, nS), (9, (.slice ob ((stL a v x W q i).length) oc)), (10, vI ((q : Nat) : Int)), (11, vI ((i : Nat) : Int))] rfl (.of rfl) (fun ρ0 => ?_)
     refine T.rg (TO.qm rfl (TO.qm rfl (TO.l rfl (l_build1 (v := vI ((q : Nat) : Int)) uT37 inf3 rfl rfl rfl (fun z2 => ?_)))))
     refine TO.l rfl (l_append 1 uT37 uT37 inf3 rfl rfl rfl rfl (by rw [List.length_map]; omega) (by decide) (Src.row (j := 0) rfl (by simp)) (by simp [oneB]) (by omega) (by decide) (by decide) (fun z3 zc4 => ?_))
     refine TO.qa rfl (TO.nl ?_)
     refine T.reset [rowI (aD z2) 1 3 1 [vI ((q : Nat) : Int)], rowI z3 zc4 3 1 ((intN (stL a v x W q i)) ++ [vI ((q : Nat) : Int)]), oI z1 25 (dC a k)] [(0, (dV a k)), (1, (.slice sb ((elN W).length) sc)), (2, .int .u8 ((x : Nat) : Int)), (3, vI ((v : Nat) : Int)), (4, (.pointer (aD z1))), (8, nS), (9, (.slice z3 (((stL a v x W q i).length) + 1) zc4)), (10, vI ((q : Nat) : Int)), (11, vI ((i : Nat) : Int))] rfl (.of rfl) (fun ρ0 => ?_)
     refine T.rg (TO.qm rfl (TO.q (q_addN (a := i) (b := 1) rfl rfl (by omega)) (TO.qa rfl (TO.nl ?_))))
     have hst := stL_put hsi hhit hno
     exact ⟨i + 1, by omega, [rowI z3 zc4 3 1 ((intN (stL a v x W q i)) ++ [vI ((q : Nat) : Int)]), oI z1 25 (dC a k)], (by exact Sub.d (.k (.k .z))), z3, zc4, by rw [hst]; simp, by omega, ⟨rfl, rfl, rfl, rfl, rfl, rfl, (by rw [hst, List.length_append]; rfl), rfl, rfl, trivial⟩⟩
    have hold : q ∈ stL a v x W q i := by simpa using hc
    refine T.skip ?_
    refine T.reset [rowI ob oc 3 1 (intN (stL a v x W q i)), oI z1 25 (dC a k)] [(0, (dV a k)), (1, (.slice sb ((elN W).length) sc)), (2, .int .u8 ((x : Nat) : Int)), (3, vI ((v : Nat) : Int)), (4, (.pointer (aD z1))), (8, nS), (9, (.slice ob ((stL a v x W q i).length) oc)), (10, vI ((q : Nat) : Int)), (11, vI ((i : Nat) : Int))] rfl (.of rfl) (fun ρ0 => ?_)
    refine T.rg (TO.qm rfl (TO.q (q_addN (a := i) (b := 1) rfl rfl (by omega)) (TO.qa rfl (TO.nl ?_))))
    have hst : stL a v x W q (i + 1) = stL a v x W q i := stL_old hsi (.inl hold)
    exact ⟨i + 1, by omega, [rowI ob oc 3 1 (intN (stL a v x W q i)), oI z1 25 (dC a k)], (by exact Sub.rf), ob, oc, by rw [hst], by omega, ⟨rfl, rfl, rfl, rfl, rfl, rfl, (by rw [hst]; rfl), rfl, rfl, trivial⟩⟩
   refine DO.q rfl (QT.toB (q_move rfl) (decide_eq_false hs40)) ?_
   refine DO.guarded rfl rfl rfl (q_fa uT25 rfl inf22 rfl rfl) ?_
   refine DO.guarded rfl rfl rfl (q_lb 1 uT22 rfl rfl rfl rfl) ?_
   refine DO.guarded rfl rfl rfl (q_move rfl) ?_
   refine DO.guarded rfl rfl rfl (q_move rfl) ?_
   refine DO.guarded rfl rfl rfl (q_ix (i := i) uT37 inf3 rfl rfl (Sl.o hs) hil (by rw [List.length_map]; exact hil)) ?_
   refine DO.guarded rfl rfl rfl (q_ld uT3 rfl rfl (Sl.o hs) (intN_at hsi)) ?_
   refine DO.guarded rfl rfl rfl (q_ix (i := s) uT22 inf37 rfl rfl (Sl.o ha.outer) hsl (hvl ▸ hsl)) ?_
   refine DO.guarded rfl rfl rfl (q_ld uT37 rfl rfl (Sl.o ha.outer) g1) ?_
   refine DO.guarded rfl rfl rfl (q_move rfl) ?_
   refine DO.guarded rfl rfl rfl (q_move rfl) ?_
   refine DO.guarded rfl rfl rfl (q_move rfl) ?_
   have hk51 := fun (w1 : World) (hI : Inv w [rowI ob oc 3 1 (intN (stL a v x W q i)), oI z1 25 (dC a k)] w1) => (haveI := tbz hI; (show PureT _ _ _ _ _ from by
     have h9 := wthC w1 x v 1 hv5 hx64 (by decide)
     exact h9))
   refine DO.loudG rfl rfl rfl rfl (l_call ent47 (CallT.op hk51) rfl ?_)
   clear hk51
   rintro vr O' ⟨N, rfl, rfl, rfl⟩
   refine ⟨by exact Sub.rf, ?_⟩
   refine DO.guarded rfl rfl rfl (q_ix (i := (c1 v x)) uT37 inf3 rfl rfl (Sl.o s1) hk1 (by rw [List.length_map]; exact hk1)) ?_
   refine DO.guarded rfl rfl rfl (q_ld uT3 rfl rfl (Sl.o s1) hy1) ?_
   refine DO.guarded rfl rfl rfl (QT.cast (q_eql rfl rfl) (v' := .bool (decide (toN a s (c1 v x) = q))) (congrArg Value.bool (decide_eq_decide.2 (by omega)))) ?_
   refine DO.q rfl (q_pick0 rfl rfl) ?_
   by_cases hs57 : toN a s (c1 v x) = q
   ·refine DO.q rfl (QT.toB (q_move rfl) (decide_eq_true hs57)) ?_
    refine DO.guarded rfl rfl rfl (q_move rfl) ?_
    refine DO.guarded rfl rfl rfl (q_move rfl) ?_
    have hk60 := fun (w1 : World) (hI : Inv w [rowI ob oc 3 1 (intN (stL a v x W q i)), oI z1 25 (dC a k)] w1) => (haveI := tbz hI; (show PureT _ _ _ _ _ from by
      have h9 := hasInt w1 ob oc (zL (stL a v x W q i)) ((q : Nat) : Int) (by rw [ints_zL]; exact hI.slOf (mG 0 rfl)) (by rw [zL_len]; omega)
      rw [zL_len, show decide ((q : Int) ∈ zL (stL a v x W q i)) = decide (q ∈ stL a v x W q i) from decide_eq_decide.2 zL_mem] at h9
      exact h9))
    refine DO.lastG rfl rfl rfl rfl (l_call ent80 (CallT.op hk60) rfl ?_)
    clear hk60
    rintro vr O' ⟨N, rfl, rfl, rfl⟩
    refine DO.lastG rfl rfl rfl rfl (LT.oq rfl rfl (q_not rfl) ?_)
    refine DO.last rfl rfl (LT.oq rfl rfl (q_pick1 rfl rfl) ?_)
    refine DO.done ?_
    refine T.cond rfl (fun hc => ?_) (fun hc => ?_)
    ·have hno : q ∉ stL a v x W q i := by simpa using hc
     have hhit : toN a s (c0 v x) = q ∨ toN a s (c1 v x) = q := by omega
     refine T.reset [rowI ob oc 3 1 (intN (stL a v x W q i)), oI z1 25 (dC a k)] [(0, (dV a k)), (1, (.slice sb ((elN W).length) sc)), (2, .int .u8 ((x : Nat) : Int)), (3, vI ((v : Nat) : Int)), (4, (.pointer (aD z1))), (8, nS), (9, (.slice ob ((stL a v x W q i).length) oc)), (10, vI ((q : Nat) : Int)), (11, vI ((i : Nat) : Int))] rfl (.of rfl) (fun ρ0 => ?_)
     refine T.rg (TO.qm rfl (TO.qm rfl (TO.l rfl (l_build1 (v := vI ((q : Nat) : Int)) uT37 inf3 rfl rfl rfl (fun z5 => ?_)))))
     refine TO.l rfl (l_append 1 uT37 uT37 inf3 rfl rfl rfl rfl (by rw [List.length_map]; omega) (by decide) (Src.row (j := 0) rfl (by simp)) (by simp [oneB]) (by omega) (by decide) (by decide) (fun z6 zc7 => ?_))
     refine TO.qa rfl (TO.nl ?_)
     refine T.reset [rowI (aD z5) 1 3 1 [vI ((q : Nat) : Int)], rowI z6 zc7 3 1 ((intN (stL a v x W q i)) ++ [vI ((q : Nat) : Int)]), oI z1 25 (dC a k)] [(0, (dV a k)), (1, (.slice sb ((elN W).length) sc)), (2, .int .u8 ((x : Nat) : Int)), (3, vI ((v : Nat) : Int)), (4, (.pointer (aD z1))), (8, nS), (9, (.slice z6 (((stL a v x W q i).length) + 1) zc7)), (10, vI ((q : Nat) : Int)), (11, vI ((i : Nat) : Int))] rfl (.of rfl) (fun ρ0 => ?_)
     refine T.rg (TO.qm rfl (TO.q (q_addN (a := i) (b := 1) rfl rfl (by omega)) (TO.qa rfl (TO.nl ?_))))
     have hst := stL_put hsi hhit hno
     exact ⟨i + 1, by omega, [rowI z6 zc7 3 1 ((intN (stL a v x W q i)) ++ [vI ((q : Nat) : Int)]), oI z1 25 (dC a k)], (by exact Sub.d (.k (.k .z))), z6, zc7, by rw [hst]; simp, by omega, ⟨rfl, rfl, rfl, rfl, rfl, rfl, (by rw [hst, List.length_append]; rfl), rfl, rfl, trivial⟩⟩
    have hold : q ∈ stL a v x W q i := by simpa using hc
    refine T.skip ?_
    refine T.reset [rowI ob oc 3 1 (intN (stL a v x W q i)), oI z1 25 (dC a k)] [(0, (dV a k)), (1, (.slice sb ((elN W).length) sc)), (2, .int .u8 ((x : Nat) : Int)), (3, vI ((v : Nat) : Int)), (4, (.pointer (aD z1))), (8, nS), (9, (.slice ob ((stL a v x W q i).length) oc)), (10, vI ((q : Nat) : Int)), (11, vI ((i : Nat) : Int))] rfl (.of rfl) (fun ρ0 => ?_)
    refine T.rg (TO.qm rfl (TO.q (q_addN (a := i) (b := 1) rfl rfl (by omega)) (TO.qa rfl (TO.nl ?_))))
    have hst : stL a v x W q (i + 1) = stL a v x W q i := stL_old hsi (.inl hold)
    exact ⟨i + 1, by omega, [rowI ob oc 3 1 (intN (stL a v x W q i)), oI z1 25 (dC a k)], (by exact Sub.rf), ob, oc, by rw [hst], by omega, ⟨rfl, rfl, rfl, rfl, rfl, rfl, (by rw [hst]; rfl), rfl, rfl, trivial⟩⟩
   refine DO.q rfl (QT.toB (q_move rfl) (decide_eq_false hs57)) (DO.passed rfl rfl rfl (DO.passed rfl rfl rfl ?_))
   refine DO.passedL (by decide) rfl rfl rfl rfl rfl ?_
   refine DO.passedL (by decide) rfl rfl rfl rfl rfl ?_
   refine DO.last rfl rfl (LT.oq rfl rfl (q_pick0 rfl rfl) ?_)
   refine DO.done ?_
   refine T.cond0 rfl (T.skip ?_)
   refine T.reset [rowI ob oc 3 1 (intN (stL a v x W q i)), oI z1 25 (dC a k)] [(0, (dV a k)), (1, (.slice sb ((elN W).length) sc)), (2, .int .u8 ((x : Nat) : Int)), (3, vI ((v : Nat) : Int)), (4, (.pointer (aD z1))), (8, nS), (9, (.slice ob ((stL a v x W q i).length) oc)), (10, vI ((q : Nat) : Int)), (11, vI ((i : Nat) : Int))] rfl (.of rfl) (fun ρ0 => ?_)
   refine T.rg (TO.qm rfl (TO.q (q_addN (a := i) (b := 1) rfl rfl (by omega)) (TO.qa rfl (TO.nl ?_))))
   have hst : stL a v x W q (i + 1) = stL a v x W q i := stL_old hsi (.inr (by omega))
   exact ⟨i + 1, by omega, [rowI ob oc 3 1 (intN (stL a v x W q i)), oI z1 25 (dC a k)], (by exact Sub.rf), ob, oc, by rw [hst], by omega, ⟨rfl, rfl, rfl, rfl, rfl, rfl, (by rw [hst]; rfl), rfl, rfl, trivial⟩⟩
  have hge22 : ¬ i < (elN W).length := by omega
  refine T.exit ?_
  refine T.rg (TO.qm rfl (TO.q (q_addN (a := q) (b := 1) rfl rfl (by omega)) (TO.qa rfl (TO.nl ?_))))
  have hst : stL a v x W q i = loF Y (q + 1) := by rw [show i = (elN W).length by omega, ← hY]; exact stL_full a v x W q
  exact ⟨q + 1, by omega, [rowI ob oc 3 1 (intN (stL a v x W q i)), oI z1 25 (dC a k)], (by exact Sub.rf), ob, oc, by rw [← hst], by omega, ⟨rfl, rfl, rfl, rfl, rfl, rfl, (by rw [← hst]; rfl), rfl, trivial⟩⟩
 have hge16 : ¬ q < a.next.length := by omega
 refine T.exit ?_
 refine T.s (T.rg (TO.qm rfl (TO.qa rfl (TO.nl (T.ret (Res.drop ?_))))))
 refine Res.one (.slice ob ((loF Y q).length) oc) Tryz.results43 rfl ?_
 have hqe : q = a.next.length := by omega
 have hf : loF Y q = elN Y := by rw [hqe]; exact loF_full hgY.lt hn
 refine ⟨[rowI ob oc 3 1 (intN (loF Y q))], (by exact Sub.k .z), ob, oc, ?_, ?_⟩
 ·rw [hf, hY]
 ·rw [hf, hY]
theorem stepZ (w : World) [Tab Tryz.prog w] (a : DFA) (k : DK) (ha : At w a k) (hv : Valid a) (hn : a.next.length ≤ 64) (W : Nat) (hgW : Gd a W) (sb : Option Addr) (sc : Nat) (hs : Sl w sb (ints (elZ W))) (x v : Nat) (hvv : v < a.vars.toNat) (hx : x < letN a) {Y : Nat} (hY : pst a v W x = Y) :
  PureT Tryz.prog 43 [dV a k, .slice sb (elZ W).length sc, .int .u8 ((x : Nat) : Int), vI ((v : Nat) : Int)] w fun r N => ∃ b c, r = .slice b (elZ Y).length c ∧ N = [rowI b c 3 1 (ints (elZ Y))] := by
 have h9 := stepC w a k ha hv hn W hgW sb sc (by rw [← ints_zL]; exact hs) x v hvv hx
 rw [← zL_len (elN W), ← zL_len (elN (pst a v W x)), ← ints_zL, hY] at h9
 exact h9
end Go.Proofs.YtohkmggbfcnapaaGreatDoor


namespace Go.Proofs.YtohkmggbfcnapaaGreatDoor
open Go.Lx Go.RowKit _root_.Go.Proofs.Tryz
theorem rexBad (w : World) [Tab Tryz.prog w] (a : DFA) (k : DK) (ha : At w a k) (haa : a.next.length < 9223372036854775807) (haar : ∀ r ∈ a.next, r.length < 9223372036854775807) (haaf : a.final.length < 9223372036854775807) (v B : Int) (he : vE a v ≠ 0) :
  PureT Tryz.prog 13 [dV a k, vI v, vI B] w fun v9 N => v9 = .tuple #[dV noD ⟨none, 0, none, 0, []⟩, vI (vE a v : Int)] ∧ N = [] := by
 refine CallT.enter func13 rfl ntmps13 rfl ?_
 refine T.s (T.rg (TO.l rfl (l_box (v := (dV a k)) (cs := (dC a k)) rfl rfl (fun bx1 => ?_))))
 refine TO.l rfl (l_alloc inf25 rfl (fun bx2 => ?_))
 refine TO.qa rfl (TO.nl (T.s (T.rg (TO.q (q_la 1 uT25 rfl inf25 rfl rfl rfl) (TO.qm rfl ?_)))))
 have hk19 := fun (w1 : World) (hI : Inv w [oI bx2 25 [(vI 0), (vI 0), nS, nS], oI bx1 25 (dC a k)] w1) => (haveI := tbz hI; (show PureT _ _ _ _ _ from by
   have h9 := wrongC w1 a k (hI.atB ha) haa haar haaf v 0 (.inl rfl)
   rw [wrE_zero] at h9
   exact h9))
 refine TO.l rfl (l_call ent41 (CallT.op hk19) rfl ?_)
 clear hk19
 rintro vr O' ⟨N, rfl, rfl, rfl⟩
 refine TO.qa rfl (TO.nl (T.s (T.s (T.rg (TO.qm rfl (TO.q (QT.toB (q_neq rfl rfl) (decide_eq_true (by omega))) (TO.nl ?_)))))))
 refine T.cond1 rfl ?_
 refine T.s (T.rg (TO.q (q_build plan25 inf25 rfl) (TO.qm rfl (TO.l rfl (l_sb (v := (.agg #[(vI 0), (vI 0), nS, nS])) (vs := [(vI 0), (vI 0), nS, nS]) 0 inf25 rfl rfl rfl rfl rfl rfl (by simp [putL]) ?_)))))
 refine TO.qa rfl (TO.nl (T.ret (Res.drop ?_)))
 refine Res.cell1b (vI (vE a v : Int)) (i := 0) Tryz.results13 uT25 rfl inf25 rfl rfl rfl rfl ?_
 exact ⟨[], Sub.z, rfl, rfl⟩
theorem rexLo (w : World) [Tab Tryz.prog w] (a : DFA) (k : DK) (ha : At w a k) (haa : a.next.length < 9223372036854775807) (haar : ∀ r ∈ a.next, r.length < 9223372036854775807) (haaf : a.final.length < 9223372036854775807) (v B : Int) (he : vE a v = 0) (hB : B < 1) :
  PureT Tryz.prog 13 [dV a k, vI v, vI B] w fun v9 N => v9 = .tuple #[dV noD ⟨none, 0, none, 0, []⟩, vI 1] ∧ N = [] := by
 refine CallT.enter func13 rfl ntmps13 rfl ?_
 refine T.s (T.rg (TO.l rfl (l_box (v := (dV a k)) (cs := (dC a k)) rfl rfl (fun bx1 => ?_))))
 refine TO.l rfl (l_alloc inf25 rfl (fun bx2 => ?_))
 refine TO.qa rfl (TO.nl (T.s (T.rg (TO.q (q_la 1 uT25 rfl inf25 rfl rfl rfl) (TO.qm rfl ?_)))))
 have hk19 := fun (w1 : World) (hI : Inv w [oI bx2 25 [(vI 0), (vI 0), nS, nS], oI bx1 25 (dC a k)] w1) => (haveI := tbz hI; (show PureT _ _ _ _ _ from by
   have h9 := wrongC w1 a k (hI.atB ha) haa haar haaf v 0 (.inl rfl)
   rw [wrE_zero] at h9
   exact h9))
 refine TO.l rfl (l_call ent41 (CallT.op hk19) rfl ?_)
 clear hk19
 rintro vr O' ⟨N, rfl, rfl, rfl⟩
 refine TO.qa rfl (TO.nl (T.s (T.s (T.rg (TO.qm rfl (TO.q (QT.toB (q_neq rfl rfl) (decide_eq_false (by omega))) (TO.nl (T.cond0 rfl (T.skip (T.s (T.s (T.rg (TO.qm rfl (TO.q (QT.toB (q_lss rfl rfl) (decide_eq_true (by omega))) (TO.qm rfl (TO.pd rfl rfl ?_))))))))))))))))
 refine TO.pd rfl rfl (TO.q (q_pick1 rfl rfl) (TO.nl ?_))
 refine T.cond1 rfl ?_
 refine T.s (T.rg (TO.q (q_build plan25 inf25 rfl) (TO.l rfl (l_sb (v := (.agg #[(vI 0), (vI 0), nS, nS])) (vs := [(vI 0), (vI 0), nS, nS]) 0 inf25 rfl rfl rfl rfl rfl rfl (by simp [putL]) ?_))))
 refine TO.qa rfl (TO.nl (T.ret (Res.drop ?_)))
 refine Res.cell1b (vI 1) (i := 0) Tryz.results13 uT25 rfl inf25 rfl rfl rfl rfl ?_
 exact ⟨[], Sub.z, rfl, rfl⟩
theorem rexHi (w : World) [Tab Tryz.prog w] (a : DFA) (k : DK) (ha : At w a k) (haa : a.next.length < 9223372036854775807) (haar : ∀ r ∈ a.next, r.length < 9223372036854775807) (haaf : a.final.length < 9223372036854775807) (v B : Int) (he : vE a v = 0) (hB : 4096 < B) :
  PureT Tryz.prog 13 [dV a k, vI v, vI B] w fun v9 N => v9 = .tuple #[dV noD ⟨none, 0, none, 0, []⟩, vI 1] ∧ N = [] := by
 refine CallT.enter func13 rfl ntmps13 rfl ?_
 refine T.s (T.rg (TO.l rfl (l_box (v := (dV a k)) (cs := (dC a k)) rfl rfl (fun bx1 => ?_))))
 refine TO.l rfl (l_alloc inf25 rfl (fun bx2 => ?_))
 refine TO.qa rfl (TO.nl (T.s (T.rg (TO.q (q_la 1 uT25 rfl inf25 rfl rfl rfl) (TO.qm rfl ?_)))))
 have hk19 := fun (w1 : World) (hI : Inv w [oI bx2 25 [(vI 0), (vI 0), nS, nS], oI bx1 25 (dC a k)] w1) => (haveI := tbz hI; (show PureT _ _ _ _ _ from by
   have h9 := wrongC w1 a k (hI.atB ha) haa haar haaf v 0 (.inl rfl)
   rw [wrE_zero] at h9
   exact h9))
 refine TO.l rfl (l_call ent41 (CallT.op hk19) rfl ?_)
 clear hk19
 rintro vr O' ⟨N, rfl, rfl, rfl⟩
 refine TO.qa rfl (TO.nl (T.s (T.s (T.rg (TO.qm rfl (TO.q (QT.toB (q_neq rfl rfl) (decide_eq_false (by omega))) (TO.nl (T.cond0 rfl (T.skip (T.s (T.s (T.rg (TO.qm rfl (TO.q (QT.toB (q_lss rfl rfl) (decide_eq_false (by omega))) (TO.qm rfl (TO.gq rfl rfl (q_move rfl) ?_))))))))))))))))
 refine TO.gq rfl rfl (QT.toB (q_gtr rfl rfl) (decide_eq_true (by omega))) (TO.q (q_pick0 rfl rfl) (TO.nl ?_))
 refine T.cond1 rfl ?_
 refine T.s (T.rg (TO.q (q_build plan25 inf25 rfl) (TO.l rfl (l_sb (v := (.agg #[(vI 0), (vI 0), nS, nS])) (vs := [(vI 0), (vI 0), nS, nS]) 0 inf25 rfl rfl rfl rfl rfl rfl (by simp [putL]) ?_))))
 refine TO.qa rfl (TO.nl (T.ret (Res.drop ?_)))
 refine Res.cell1b (vI 1) (i := 0) Tryz.results13 uT25 rfl inf25 rfl rfl rfl rfl ?_
 exact ⟨[], Sub.z, rfl, rfl⟩
theorem rexOk (w : World) [Tab Tryz.prog w] (a : DFA) (k : DK) (ha : At w a k) (hv : Valid a) (hn : a.next.length ≤ 64) (v : Nat) (hva : (v : Int) < a.vars) (B : Int) (hB1 : 1 ≤ B) (hB2 : B ≤ 4096) :
  PureT Tryz.prog 13 [dV a k, vI ((v : Nat) : Int), vI B] w fun r N => ∃ k9 : DK, r = .tuple #[dV (xsV a (v : Int) B) k9, vI (xsE a (v : Int) B : Int)] ∧ N = [dI 37 4 3 (xsV a (v : Int) B) k9] := by
 refine CallT.enter func13 rfl ntmps13 rfl ?_
 have he := checkD_zero.2 hv
 have h4 := hv.n4
 have hww : letN a ≤ 64 := hv.width
 have hfin := hv.fin
 have hvl := ha.rows.1
 have hsl := start_lt hv.toVal
 have hs0 := hv.s0
 have hs1 := hv.s1
 have hve : vE a v = 0 := vE_zero.2 ⟨hv, by omega, hva⟩
 have hv6 := hv.v6
 have hv0 := hv.v0
 have hvv : v < a.vars.toNat := by omega
 have hse : a.start = ((a.start.toNat : Nat) : Int) := (Int.toNat_of_nonneg hv.s0).symm
 have hz0 : elZ (2 ^ a.start.toNat) = [a.start] := by show zL (elN _) = _; rw [elN_two _ (by omega)]; show [((a.start.toNat : Nat) : Int)] = _; rw [← hse]
 refine T.s (T.rg (TO.l rfl (l_box (v := (dV a k)) (cs := (dC a k)) rfl rfl (fun z1 => ?_))))
 refine TO.l rfl (l_alloc inf25 rfl (fun z2 => ?_))
 refine TO.qa rfl (TO.nl (T.s (T.rg (TO.q (q_la 1 uT25 rfl inf25 rfl rfl rfl) (TO.qm rfl ?_)))))
 have hk19 := fun (w1 : World) (hI : Inv w [oI z2 25 [(vI 0), (vI 0), nS, nS], oI z1 25 (dC a k)] w1) => (haveI := tbz hI; (show PureT _ _ _ _ _ from by
   have h9 := wrongC w1 a k (hI.atB ha) (by omega) hv.bound (by omega) (v : Int) 0 (.inl rfl)
   rw [wrE_zero, hve] at h9
   exact h9))
 refine TO.l rfl (l_call ent41 (CallT.op hk19) rfl ?_)
 clear hk19
 rintro vr O' ⟨N, rfl, rfl, rfl⟩
 refine TO.qa rfl (TO.nl (T.s (T.s (T.rg (TO.qm rfl (TO.q (QT.toB (q_neq rfl rfl) (decide_eq_false (by omega))) (TO.nl (T.cond0 rfl (T.skip (T.s (T.s (T.rg (TO.qm rfl (TO.q (QT.toB (q_lss rfl rfl) (decide_eq_false (by omega))) (TO.qm rfl (TO.gq rfl rfl (q_move rfl) ?_))))))))))))))))
 refine TO.gq rfl rfl (QT.toB (q_gtr rfl rfl) (decide_eq_false (by omega))) (TO.q (q_pick0 rfl rfl) (TO.nl (T.cond0 rfl (T.skip (T.s (T.rg (TO.q (q_fa uT25 rfl inf3 rfl rfl) (TO.q (q_lb 1 uT3 rfl rfl rfl rfl) (TO.q (q_build (cs := [(vI a.vars), (vI 0), nS, nS]) plan25 inf25 (by kernel_rfl)) (TO.l rfl (l_alloc inf25 rfl (fun z3 => ?_))))))))))))
 refine TO.l rfl (l_sb (v := (.agg #[(vI a.vars), (vI 0), nS, nS])) (vs := [(vI a.vars), (vI 0), nS, nS]) 0 inf25 rfl rfl rfl rfl rfl rfl (by simp [putL]) ?_)
 refine TO.nl ?_
 refine T.reset [oI z3 25 [(vI a.vars), (vI 0), nS, nS], oI z2 25 [(vI 0), (vI 0), nS, nS], oI z1 25 (dC a k)] [(0, (dV a k)), (1, vI ((v : Nat) : Int)), (2, vI B), (3, (.pointer (aD z1))), (6, (.pointer (aD z2))), (7, vI 0), (8, vI 0), (9, (.pointer (aD z3)))] rfl (.of rfl) (fun ρ0 => ?_)
 refine T.s (T.rg (TO.q (q_fa uT25 rfl inf3 rfl rfl) (TO.q (q_lb 2 uT3 rfl rfl rfl rfl) (TO.l rfl (l_build1 (v := (vI a.start)) uT37 inf3 rfl rfl rfl (fun z4 => ?_))))))
 refine TO.l rfl (l_build1 (v := (.slice (aD z4) 1 1)) uT22 inf37 rfl rfl rfl (fun z5 => ?_))
 refine TO.qa rfl (TO.nl (T.s (T.s (T.rg (TO.qa rfl (TO.nl (T.block ?_)))))))
 refine T.nilD 37 4 3 ?_
 refine T.sub (O' := ([rowI (aD z5) 1 37 1 [(.slice (aD z4) 1 1)], rowI (aD z4) 1 3 1 [(vI a.start)], oI z1 25 (dC a k), oI z2 25 [(vI 0), (vI 0), nS, nS], oI z3 25 [(vI a.vars), (vI 0), nS, nS], dI 37 4 3 noD k00])) (by exact Sub.pull [dI 37 4 3 noD k00] _ (.pull [dI 37 4 3 noD k00] _ (.pull [dI 37 4 3 noD k00, oI z3 25 [(vI a.vars), (vI 0), nS, nS], oI z2 25 [(vI 0), (vI 0), nS, nS]] _ (.pull [dI 37 4 3 noD k00, oI z3 25 [(vI a.vars), (vI 0), nS, nS]] _ (.pull [dI 37 4 3 noD k00] _ (.k .z)))))) ?_
 refine T.sub (O' := ((rowI (aD z5) 1 37 1 (vals [⟨some ⟨z4, 0, none⟩, 1, elZ (2 ^ a.start.toNat)⟩]) :: itms 3 [⟨some ⟨z4, 0, none⟩, 1, elZ (2 ^ a.start.toNat)⟩]) ++ [oI z1 25 (dC a k), oI z2 25 [(vI 0), (vI 0), nS, nS], oI z3 25 [(vI a.vars), (vI 0), nS, nS], dI 37 4 3 noD k00])) (by simp only [itms, List.map_cons, List.map_nil, Rec.val, Rec.itm, hz0]; exact Sub.rf) ?_
 refine T.pack (φ := True) trivial ?_
 refine T.sub (O' := [oI z1 25 (dC a k), oI z2 25 [(vI 0), (vI 0), nS, nS], rsI 37 3 (aD z5) 1 [⟨some ⟨z4, 0, none⟩, 1, elZ (2 ^ a.start.toNat)⟩], oI z3 25 [(vI a.vars), (vI 0), nS, nS], dI 37 4 3 noD k00]) (by exact Sub.pull [rsI 37 3 (aD z5) 1 [⟨some ⟨z4, 0, none⟩, 1, elZ (2 ^ a.start.toNat)⟩]] _ (.pull [rsI 37 3 (aD z5) 1 [⟨some ⟨z4, 0, none⟩, 1, elZ (2 ^ a.start.toNat)⟩]] _ (.k (.k (.k .z))))) ?_
 refine T.loop (fun (i : Nat) ρ O => ∃ (sb : Option Addr) (sc : Nat) (us : List Rec) (km : DK), O = [oI z1 25 (dC a k), oI z2 25 [(vI 0), (vI 0), nS, nS], rsI 37 3 sb sc us, oI z3 25 (dC (pdN a v i) km), dI 37 4 3 (pdN a v i) km] ∧ i ≤ us.length ∧ nums us = (psN a v i).map elZ ∧ (us.length : Int) ≤ B ∧ Heads [(0, (dV a k)), (1, vI ((v : Nat) : Int)), (2, vI B), (3, (.pointer (aD z1))), (6, (.pointer (aD z2))), (8, vI 0), (9, (.pointer (aD z3))), (10, (.slice sb us.length sc)), (11, vI ((i : Nat) : Int))] ρ) (fun i => 4097 - i) 0 ?_ ?_
 ·exact ⟨_, 1, [⟨some ⟨z4, 0, none⟩, 1, elZ (2 ^ a.start.toNat)⟩], k00, rfl, Nat.zero_le _, rfl, hB1, (.of rfl)⟩
 rintro i ρ O ⟨sb, sc, us, km, rfl, hiu, hus, hul, hH⟩
 obtain ⟨ρ0, rfl⟩ := hH.elim
 clear hH
 have hpl : (psN a v i).length = us.length := by have := congrArg List.length hus; simpa using this.symm
 refine T.s (T.s (T.rg (TO.qm rfl (TO.qm rfl (TO.q (q_len uT22 rfl) (TO.q (q_lss rfl rfl) (TO.nl (T.condP rfl (fun hc => ?_) (fun hc => ?_)))))))))
 ·have hlt41 : i < us.length := by omega
  have hil : i < us.length := by omega
  obtain ⟨W, hW⟩ : ∃ W, pwA a v i = W := ⟨_, rfl⟩
  have hiW : (psN a v i)[i]? = some W := by rw [← hW]; exact pwA_get (by omega)
  have hgW : Gd a W := psN_gd hv.toVal hn hvv i _ (List.mem_of_getElem? hiW)
  have hel := elZ_len W
  have hell : (elZ W).length = (elN W).length := zL_len _
  refine T.skip (T.s (T.block (T.s (T.rg (TO.qa rfl (TO.nl (T.s (T.s (T.rg (TO.qa rfl (TO.nl (T.block (T.nilRow 3 1 ?_)))))))))))))
  refine T.sub (O' := [oI z1 25 (dC a k), oI z2 25 [(vI 0), (vI 0), nS, nS], rsI 37 3 sb sc us, oI z3 25 (dC (pdN a v i) km), dI 37 4 3 (pdN a v i) km, rowI none 0 3 1 []]) (by exact Sub.pull [rowI none 0 3 1 []] _ (.pull [rowI none 0 3 1 []] _ (.pull [rowI none 0 3 1 []] _ (.pull [rowI none 0 3 1 []] _ (.pull [rowI none 0 3 1 []] _ (.k .z)))))) ?_
  refine T.loopS (fun (x : Nat) ρ O => ∃ (sb2 : Option Addr) (sc2 : Nat) (us2 : List Rec) (rb : Option Addr) (rc : Nat), O = [oI z1 25 (dC a k), oI z2 25 [(vI 0), (vI 0), nS, nS], rsI 37 3 sb2 sc2 us2, oI z3 25 (dC (pdN a v i) km), dI 37 4 3 (pdN a v i) km, rowI rb rc 3 1 (ints (rwX a v i W x))] ∧ x ≤ letN a ∧ nums us2 = (psM a v i W x).map elZ ∧ Heads [(0, (dV a k)), (1, vI ((v : Nat) : Int)), (2, vI B), (3, (.pointer (aD z1))), (6, (.pointer (aD z2))), (8, vI 0), (9, (.pointer (aD z3))), (10, (.slice sb2 us2.length sc2)), (11, vI ((i : Nat) : Int)), (12, (.slice rb x rc)), (13, vI ((x : Nat) : Int))] ρ) (fun x => letN a - x) 0 ?_ ?_
  ·exact ⟨sb, sc, us, none, 0, rfl, Nat.zero_le _, hus, (.of rfl)⟩
  rintro x ρ O ⟨sb2, sc2, us2, rb, rc, rfl, hx, hus2, hH⟩
  obtain ⟨ρ0, rfl⟩ := hH.elim
  clear hH
  have hpl2 : (psM a v i W x).length = us2.length := by have := congrArg List.length hus2; simpa using this.symm
  have hpl3 := psM_len a v i W x
  obtain ⟨q9, hq9, hw9⟩ := rs_at hus2 (psM_at (x := x) hiW)
  have hg9 := rs_val hq9 hw9
  have hiu2 : i < us2.length := (List.getElem?_eq_some_iff.1 hq9).1
  refine T.s (T.s (T.rg (TO.qm rfl (TO.q (q_fa uT25 rfl inf3 rfl rfl) (TO.q (q_lb 0 uT3 rfl rfl rfl rfl) ?_)))))
  have hk47 := fun (w1 : World) (hI : Inv w [oI z1 25 (dC a k), oI z2 25 [(vI 0), (vI 0), nS, nS], rsI 37 3 sb2 sc2 us2, oI z3 25 (dC (pdN a v i) km), dI 37 4 3 (pdN a v i) km, rowI rb rc 3 1 (ints (rwX a v i W x))] w1) => (haveI := tbz hI; (show PureT _ _ _ _ _ from by
    have h9 := lettersF w1 a.vars hv0 hv6
    rw [show 2 ^ a.vars.toNat = letN a from rfl] at h9
    exact h9))
  refine TO.l rfl (l_call ent42 (CallT.op hk47) rfl ?_)
  clear hk47
  rintro vr O' ⟨N, rfl, rfl, rfl⟩
  refine TO.q (q_lss rfl rfl) (TO.nl (T.condP rfl (fun hc => ?_) (fun hc => ?_)))
  ·have hlt48 : x < letN a := by omega
   have hxl : x < letN a := by omega
   have hx64 : x < 64 := by omega
   obtain ⟨Y, hY⟩ : ∃ Y, pst a v W x = Y := ⟨_, rfl⟩
   have hgY : Gd a Y := hY ▸ hgW.step hv.toVal hn hvv hxl
   have hY64 : Y < 2 ^ 64 := hgY.l64 hn
   have hl64 : ∀ q ∈ psM a v i W x, q < 2 ^ 64 := fun q hq => (psM_gd hv.toVal hn hvv hgW x hx q hq).l64 hn
   have hl65 : ∀ q ∈ psM a v i W (x + 1), q < 2 ^ 64 := fun q hq => (psM_gd hv.toVal hn hvv hgW (x + 1) hxl q hq).l64 hn
   have hYm : Y ∈ psM a v i W (x + 1) := by rw [← hY]; exact psM_mem a v i W x
   have heY := elZ_len Y
   have hrx : ints (rwX a v i W x) ++ [Value.int .i64 ((ix Y (psM a v i W (x + 1)) : Nat) : Int)] = ints (rwX a v i W (x + 1)) := by rw [rwX_snoc, hY]; simp
   have hbr : ∀ r ∈ nums us2, r.length < 9223372036854775807 := fun r hr => by
    rw [hus2] at hr
    obtain ⟨y, _, rfl⟩ := List.mem_map.1 hr
    have := elZ_len y; omega
   refine T.skip (T.s (T.block (T.s ?_)))
   refine T.draws _ [(0, 0), (1, 0), (2, 0), (3, 0), (4, 0), (5, 0), (6, 0), (7, 0), (8, 2), (9, 2)] mixed (by kernel_rfl) (Sub.of (List.Sublist.refl _)) (fun _ _ _ h => h) ?_
   refine DO.q rfl (q_la 0 uT25 rfl inf25 rfl rfl rfl) (DO.q rfl (q_move rfl) (DO.q rfl (q_move rfl) (DO.q rfl (q_ix (i := i) uT22 inf37 rfl rfl (rsO (mG 2 rfl)) hiu2 (by rw [List.length_map]; exact hiu2)) (DO.q rfl (q_ld uT37 rfl rfl (rsO (mG 2 rfl)) hg9) (DO.q rfl (q_move rfl) (DO.q rfl (q_conv_id uT3 uT5 rfl (wrap8 (by omega))) (DO.q rfl (q_move rfl) ?_)))))))
   have hk59 := fun (w1 : World) (hI : Inv w [oI z1 25 (dC a k), oI z2 25 [(vI 0), (vI 0), nS, nS], rsI 37 3 sb2 sc2 us2, oI z3 25 (dC (pdN a v i) km), dI 37 4 3 (pdN a v i) km, rowI rb rc 3 1 (ints (rwX a v i W x))] w1) => (haveI := tbz hI; stepZ w1 a k (hI.atB ha) hv hn W hgW q9.b q9.c (rsQ (mG 2 rfl) hq9 hw9 w1 hI) x v hvv hxl hY)
   refine DO.last rfl rfl (l_call ent43 (CallT.op hk59) rfl ?_)
   clear hk59
   rintro vr O' ⟨N, rfl, nb9, nc9, rfl, rfl⟩
   refine DO.last rfl rfl (LT.oq rfl rfl (q_assign rfl) ?_)
   refine DO.done ?_
   refine T.reset [rowI nb9 nc9 3 1 (ints (elZ Y)), oI z1 25 (dC a k), oI z2 25 [(vI 0), (vI 0), nS, nS], rsI 37 3 sb2 sc2 us2, oI z3 25 (dC (pdN a v i) km), dI 37 4 3 (pdN a v i) km, rowI rb rc 3 1 (ints (rwX a v i W x))] [(0, (dV a k)), (1, vI ((v : Nat) : Int)), (2, vI B), (3, (.pointer (aD z1))), (6, (.pointer (aD z2))), (8, vI 0), (9, (.pointer (aD z3))), (10, (.slice sb2 us2.length sc2)), (11, vI ((i : Nat) : Int)), (12, (.slice rb x rc)), (13, vI ((x : Nat) : Int)), (14, (.slice nb9 ((elZ Y).length) nc9))] rfl (.of rfl) (fun ρ0 => ?_)
   refine T.s (T.s (T.rg (TO.qm rfl (TO.qm rfl ?_))))
   have hk62 := fun (w1 : World) (hI : Inv w [rowI nb9 nc9 3 1 (ints (elZ Y)), oI z1 25 (dC a k), oI z2 25 [(vI 0), (vI 0), nS, nS], rsI 37 3 sb2 sc2 us2, oI z3 25 (dC (pdN a v i) km), dI 37 4 3 (pdN a v i) km, rowI rb rc 3 1 (ints (rwX a v i W x))] w1) => (haveI := tbz hI; (show PureT _ _ _ _ _ from by
     have h9 := findC w1 sb2 nb9 sc2 nc9 (vals us2) (nums us2) (elZ Y) (rsO (mG 3 rfl) w1 hI) (rsR (mG 3 rfl) w1 hI) (hI.slOf (mG 0 rfl)) (by rw [List.length_map]; omega) hbr
     rw [show (nums us2).length = us2.length from List.length_map _] at h9
     exact h9))
   refine TO.l rfl (l_call ent44 (CallT.op hk62) rfl ?_)
   clear hk62
   rintro vr O' ⟨N, rfl, rfl, rfl⟩
   refine TO.q (q_lss rfl rfl) (TO.nl (T.condP rfl (fun hc => ?_) (fun hc => ?_)))
   ·have hno : Y ∉ psM a v i W x := fun h => by
     rw [hus2, fd_yes hl64 hY64 h] at hc; omega
    have hpe : psM a v i W (x + 1) = psM a v i W x ++ [Y] := by rw [psM_step, hY]; exact if_neg hno
    have hus4 : nums (us2 ++ [⟨nb9, nc9, elZ Y⟩]) = (psM a v i W (x + 1)).map elZ := by
     show List.map Rec.xs (us2 ++ [_]) = _
     rw [List.map_append, show List.map Rec.xs us2 = _ from hus2, hpe, List.map_append]; rfl
    refine T.sub (O' := [rsI 37 3 sb2 sc2 us2, rowI nb9 nc9 3 1 (ints (elZ Y)), oI z1 25 (dC a k), oI z2 25 [(vI 0), (vI 0), nS, nS], oI z3 25 (dC (pdN a v i) km), dI 37 4 3 (pdN a v i) km, rowI rb rc 3 1 (ints (rwX a v i W x))]) (by exact Sub.pull [rowI nb9 nc9 3 1 (ints (elZ Y)), oI z1 25 (dC a k), oI z2 25 [(vI 0), (vI 0), nS, nS]] _ (.k (.k (.k (.k (.k (.k .z))))))) ?_
    refine T.unpack (fun _ => ?_)
    refine T.sub (O' := ([rowI sb2 sc2 37 1 (vals us2), rowI nb9 nc9 3 1 (ints (elZ Y)), oI z1 25 (dC a k), oI z2 25 [(vI 0), (vI 0), nS, nS], oI z3 25 (dC (pdN a v i) km), dI 37 4 3 (pdN a v i) km, rowI rb rc 3 1 (ints (rwX a v i W x))] ++ itms 3 us2)) (by exact Sub.swap3 [rowI sb2 sc2 37 1 (vals us2)] _ (itms 3 us2)) ?_
    refine T.rg (TO.qm rfl (TO.qm rfl (TO.l rfl (l_build1 (v := (.slice nb9 ((elZ Y).length) nc9)) uT22 inf37 rfl rfl rfl (fun z6 => ?_)))))
    refine TO.l rfl (l_append 1 uT22 uT22 inf37 rfl rfl rfl rfl (by rw [List.length_map]; omega) (by decide) (Src.row (j := 0) rfl (by simp)) (by simp [oneB]) (by omega) (by decide) (by decide) (fun z7 zc8 => ?_))
    refine TO.qa rfl (TO.nl ?_)
    refine T.sub (O' := ([rowI z7 zc8 37 1 ((vals us2) ++ [(.slice nb9 ((elZ Y).length) nc9)]), rowI nb9 nc9 3 1 (ints (elZ Y)), oI z1 25 (dC a k), oI z2 25 [(vI 0), (vI 0), nS, nS], oI z3 25 (dC (pdN a v i) km), dI 37 4 3 (pdN a v i) km, rowI rb rc 3 1 (ints (rwX a v i W x))] ++ itms 3 us2)) (by exact Sub.d (.k (.k (.k (.k (.k (.k (.k .rf)))))))) ?_
    refine T.sub (O' := ((rowI z7 zc8 37 1 (vals (us2 ++ [⟨nb9, nc9, elZ Y⟩])) :: itms 3 (us2 ++ [⟨nb9, nc9, elZ Y⟩])) ++ [oI z1 25 (dC a k), oI z2 25 [(vI 0), (vI 0), nS, nS], oI z3 25 (dC (pdN a v i) km), dI 37 4 3 (pdN a v i) km, rowI rb rc 3 1 (ints (rwX a v i W x))])) (by rw [show vals (us2 ++ [⟨nb9, nc9, elZ Y⟩]) = vals us2 ++ [.slice nb9 (elZ Y).length nc9] by simp [Rec.val]]; exact Sub.fold [rowI z7 zc8 37 1 (vals us2 ++ [.slice nb9 (elZ Y).length nc9])] (rowI nb9 nc9 3 1 (ints (elZ Y))) [oI z1 25 (dC a k), oI z2 25 [(vI 0), (vI 0), nS, nS], oI z3 25 (dC (pdN a v i) km), dI 37 4 3 (pdN a v i) km, rowI rb rc 3 1 (ints (rwX a v i W x))] (itms 3 us2) (itms 3 (us2 ++ [⟨nb9, nc9, elZ Y⟩])) (itms_snoc 3 us2 ⟨nb9, nc9, elZ Y⟩)) ?_
    refine T.pack (φ := True) trivial ?_
    have hbr : ∀ r ∈ nums (us2 ++ [⟨nb9, nc9, elZ Y⟩]), r.length < 9223372036854775807 := fun r hr => by
     have hr : r ∈ List.map Rec.xs (us2 ++ [_]) := hr
     rw [List.map_append] at hr
     rcases List.mem_append.1 hr with h | h
     ·exact hbr r h
     ·have : r = elZ Y := by simpa using h
      rw [this]; omega
    have hqn : (us2 ++ [⟨nb9, nc9, elZ Y⟩])[us2.length]? = some ⟨nb9, nc9, elZ Y⟩ := by rw [List.getElem?_append_right (Nat.le_refl _)]; simp
    refine T.rg (TO.qm rfl (TO.qm rfl (TO.qm rfl ?_)))
    have hk71 := fun (w1 : World) (hI : Inv w [rsI 37 3 z7 zc8 (us2 ++ [⟨nb9, nc9, elZ Y⟩]), oI z1 25 (dC a k), oI z2 25 [(vI 0), (vI 0), nS, nS], oI z3 25 (dC (pdN a v i) km), dI 37 4 3 (pdN a v i) km, rowI rb rc 3 1 (ints (rwX a v i W x))] w1) => (haveI := tbz hI; (show PureT _ _ _ _ _ from by
      have h9 := findC w1 z7 nb9 zc8 nc9 (vals (us2 ++ [⟨nb9, nc9, elZ Y⟩])) (nums (us2 ++ [⟨nb9, nc9, elZ Y⟩])) (elZ Y) (rsO (mG 0 rfl) w1 hI) (rsR (mG 0 rfl) w1 hI) (rsQ (mG 0 rfl) hqn rfl w1 hI) (by simp only [List.length_map, List.length_append, List.length_cons, List.length_nil]; omega) hbr
      rw [show (nums (us2 ++ [⟨nb9, nc9, elZ Y⟩])).length = us2.length + 1 by simp, hus4, fd_yes hl65 hY64 hYm] at h9
      exact h9))
    refine TO.l rfl (l_call ent44 (CallT.op hk71) rfl ?_)
    clear hk71
    rintro vr O' ⟨N, rfl, rfl, rfl⟩
    refine TO.l rfl (l_build1 (v := vI ((ix Y (psM a v i W (x + 1)) : Nat) : Int)) uT37 inf3 rfl rfl rfl (fun z9 => ?_))
    refine TO.l rfl (l_append 6 uT37 uT37 inf3 rfl rfl rfl rfl (by rw [List.length_map, rwX_len]; omega) (by decide) (Src.row (j := 0) rfl (by simp)) (by simp [oneB]) (by omega) (by decide) (by decide) (fun z10 zc11 => ?_))
    refine TO.qa rfl (TO.nl (T.rg (TO.qm rfl (TO.q (q_addN (a := x) (b := 1) rfl rfl (by omega)) (TO.qa rfl (TO.nl ?_))))))
    exact ⟨x + 1, by omega, [oI z1 25 (dC a k), oI z2 25 [(vI 0), (vI 0), nS, nS], rsI 37 3 z7 zc8 (us2 ++ [⟨nb9, nc9, elZ Y⟩]), oI z3 25 (dC (pdN a v i) km), dI 37 4 3 (pdN a v i) km, rowI z10 zc11 3 1 ((ints (rwX a v i W x)) ++ [vI ((ix Y (psM a v i W (x + 1)) : Nat) : Int)])], (by exact Sub.d (.pull [rsI 37 3 z7 zc8 (us2 ++ [⟨nb9, nc9, elZ Y⟩])] _ (.pull [rsI 37 3 z7 zc8 (us2 ++ [⟨nb9, nc9, elZ Y⟩])] _ (.k (.k (.k (.k .z))))))), z7, zc8, us2 ++ [⟨nb9, nc9, elZ Y⟩], z10, zc11, by rw [hrx], by omega, hus4, ⟨rfl, rfl, rfl, rfl, rfl, rfl, rfl, (by rw [List.length_append]; rfl), rfl, rfl, rfl, trivial⟩⟩
   have hno : Y ∈ psM a v i W x := Classical.byContradiction fun h => by
    rw [hus2, fd_no hl64 hY64 h] at hc; omega
   have hpe : psM a v i W (x + 1) = psM a v i W x := by rw [psM_step, hY]; exact if_pos hno
   have hus4 : nums us2 = (psM a v i W (x + 1)).map elZ := by rw [hus2, hpe]
   refine T.skip ?_
   skip
   refine T.rg (TO.qm rfl (TO.qm rfl (TO.qm rfl ?_)))
   have hk71 := fun (w1 : World) (hI : Inv w [rowI nb9 nc9 3 1 (ints (elZ Y)), oI z1 25 (dC a k), oI z2 25 [(vI 0), (vI 0), nS, nS], rsI 37 3 sb2 sc2 us2, oI z3 25 (dC (pdN a v i) km), dI 37 4 3 (pdN a v i) km, rowI rb rc 3 1 (ints (rwX a v i W x))] w1) => (haveI := tbz hI; (show PureT _ _ _ _ _ from by
     have h9 := findC w1 sb2 nb9 sc2 nc9 (vals us2) (nums us2) (elZ Y) (rsO (mG 3 rfl) w1 hI) (rsR (mG 3 rfl) w1 hI) (hI.slOf (mG 0 rfl)) (by simp only [List.length_map, List.length_append, List.length_cons, List.length_nil]; omega) hbr
     rw [show (nums us2).length = us2.length by simp, hus4, fd_yes hl65 hY64 hYm] at h9
     exact h9))
   refine TO.l rfl (l_call ent44 (CallT.op hk71) rfl ?_)
   clear hk71
   rintro vr O' ⟨N, rfl, rfl, rfl⟩
   refine TO.l rfl (l_build1 (v := vI ((ix Y (psM a v i W (x + 1)) : Nat) : Int)) uT37 inf3 rfl rfl rfl (fun z12 => ?_))
   refine TO.l rfl (l_append 7 uT37 uT37 inf3 rfl rfl rfl rfl (by rw [List.length_map, rwX_len]; omega) (by decide) (Src.row (j := 0) rfl (by simp)) (by simp [oneB]) (by omega) (by decide) (by decide) (fun z13 zc14 => ?_))
   refine TO.qa rfl (TO.nl (T.rg (TO.qm rfl (TO.q (q_addN (a := x) (b := 1) rfl rfl (by omega)) (TO.qa rfl (TO.nl ?_))))))
   exact ⟨x + 1, by omega, [oI z1 25 (dC a k), oI z2 25 [(vI 0), (vI 0), nS, nS], rsI 37 3 sb2 sc2 us2, oI z3 25 (dC (pdN a v i) km), dI 37 4 3 (pdN a v i) km, rowI z13 zc14 3 1 ((ints (rwX a v i W x)) ++ [vI ((ix Y (psM a v i W (x + 1)) : Nat) : Int)])], (by exact Sub.d (.d (.k (.k (.k (.k (.k (.k .z)))))))), sb2, sc2, us2, z13, zc14, by rw [hrx], by omega, hus4, (.of rfl)⟩
  have hge48 : ¬ x < letN a := by omega
  refine T.exit ?_
  refine T.s (T.s ?_)
  have hxe : x = letN a := by omega
  have hus3 : nums us2 = (psN a v (i + 1)).map elZ := by rw [hus2, hxe]; exact congrArg _ (psM_full hiW)
  have hpl4 : (psN a v (i + 1)).length = us2.length := by have := congrArg List.length hus3; simpa using this.symm
  have hui : i < us2.length := hiu2
  refine T.rg (TO.qm rfl (TO.q (q_len uT22 rfl) (TO.qm rfl (TO.q (q_gtr rfl rfl) (TO.nl (T.condP rfl (fun hc => ?_) (fun hc => ?_)))))))
  ·refine T.s ?_
   refine T.nilD 37 4 3 ?_
   refine T.rg (TO.q (q_build plan25 inf25 rfl) (TO.l rfl (l_sb (v := (.agg #[(vI 0), (vI 0), nS, nS])) (vs := [(vI 0), (vI 0), nS, nS]) 2 inf25 rfl rfl rfl rfl rfl rfl (by simp [putL]) ?_)))
   refine TO.qa rfl (TO.nl (T.ret (Res.drop ?_)))
   refine Res.cell1b (vI 10) (i := 2) Tryz.results13 uT25 rfl inf25 rfl rfl rfl rfl ?_
   obtain ⟨e1, e2⟩ := ex_big (d := a) (v := (v : Int)) (B := B) (i := i + 1) hve hB1 hB2 (by omega) (by show B < ((psN a v (i + 1)).length : Int); omega)
   rw [e1, e2]
   exact ⟨[dI 37 4 3 noD k00], (by exact Sub.k .z), k00, rfl, rfl⟩
  refine T.skip (T.s (T.rg (TO.qa rfl (TO.nl (T.s (T.s (T.rg (TO.qa rfl (TO.nl (T.block ?_))))))))))
  refine T.loop (fun (j : Nat) ρ O => O = [oI z1 25 (dC a k), oI z2 25 [(vI 0), (vI 0), nS, nS], rsI 37 3 sb2 sc2 us2, oI z3 25 (dC (pdN a v i) km), dI 37 4 3 (pdN a v i) km, rowI rb rc 3 1 (ints (rwX a v i W x))] ∧ j ≤ (elN W).length ∧ Heads [(0, (dV a k)), (1, vI ((v : Nat) : Int)), (2, vI B), (3, (.pointer (aD z1))), (6, (.pointer (aD z2))), (8, vI 0), (9, (.pointer (aD z3))), (10, (.slice sb2 us2.length sc2)), (11, vI ((i : Nat) : Int)), (12, (.slice rb x rc)), (13, vI ((x : Nat) : Int)), (15, .bool (((elN W).take j).any (finN a))), (16, vI ((j : Nat) : Int))] ρ) (fun j => (elN W).length - j) 0 ?_ ?_
  ·exact ⟨rfl, Nat.zero_le _, (.of rfl)⟩
  rintro j ρ O ⟨rfl, hj, hH⟩
  obtain ⟨ρ0, rfl⟩ := hH.elim
  clear hH
  refine T.s (T.s (T.rg (TO.qm rfl (TO.qm rfl (TO.qm rfl (TO.q (q_ix (i := i) uT22 inf37 rfl rfl (rsO (mG 2 rfl)) hiu2 (by rw [List.length_map]; exact hiu2)) (TO.q (q_ld uT37 rfl rfl (rsO (mG 2 rfl)) hg9) (TO.q (q_len uT37 rfl) (TO.q (q_lss rfl rfl) (TO.nl (T.condP rfl (fun hc => ?_) (fun hc => ?_))))))))))))
  ·have hlt85 : j < (elZ W).length := by omega
   have hjl : j < (elN W).length := by omega
   obtain ⟨s, hsj⟩ : ∃ s, (elN W)[j]? = some s := ⟨_, List.getElem?_eq_getElem hjl⟩
   have hsl : s < a.next.length := hgW.st (List.mem_of_getElem? hsj)
   have hfs := finN_at hv hsl
   refine T.skip (T.s (T.block ?_))
   refine T.draws _ [(0, 0), (1, 0), (2, 0), (3, 0), (4, 0), (5, 0), (6, 0), (7, 0), (8, 0), (9, 0), (10, 0), (11, 0), (12, 0), (13, 0), (14, 0)] mixed (drawF_ok (by kernel_rfl)) (Sub.of (List.Sublist.refl _)) (fun _ _ _ h => h) ?_
   refine DO.q rfl (q_move rfl) ?_
   by_cases hs89 : ((elN W).take j).any (finN a) = true
   ·refine DO.q rfl (QT.toB (q_move rfl) (hs89)) ?_
    refine DO.passed rfl rfl rfl (DO.passed rfl rfl rfl (DO.passed rfl rfl rfl (DO.passed rfl rfl rfl (DO.passed rfl rfl rfl (DO.passed rfl rfl rfl (DO.passed rfl rfl rfl (DO.passed rfl rfl rfl ?_)))))))
    refine DO.passed rfl rfl rfl (DO.passed rfl rfl rfl (DO.passed rfl rfl rfl (DO.q rfl (q_pick1 rfl rfl) (DO.q rfl (q_assign rfl) ?_))))
    refine DO.done ?_
    refine T.rg (TO.qm rfl (TO.q (q_addN (a := j) (b := 1) rfl rfl (by omega)) (TO.qa rfl (TO.nl ?_))))
    exact ⟨j + 1, by omega, rfl, by omega, ⟨rfl, rfl, rfl, rfl, rfl, rfl, rfl, rfl, rfl, rfl, rfl, (congrArg Value.bool (by rw [any_step hsj]; simp [hs89])), rfl, trivial⟩⟩
   refine DO.q rfl (QT.toB (q_move rfl) (Bool.eq_false_iff.2 hs89)) ?_
   refine DO.guarded rfl rfl rfl (q_fa uT25 rfl inf23 rfl rfl) ?_
   refine DO.guarded rfl rfl rfl (q_lb 0 uT23 rfl rfl rfl rfl) ?_
   refine DO.guarded rfl rfl rfl (q_move rfl) ?_
   refine DO.guarded rfl rfl rfl (q_move rfl) ?_
   refine DO.guarded rfl rfl rfl (q_ix (i := i) uT22 inf37 rfl rfl (rsO (mG 2 rfl)) hiu2 (by rw [List.length_map]; exact hiu2)) ?_
   refine DO.guarded rfl rfl rfl (q_ld uT37 rfl rfl (rsO (mG 2 rfl)) hg9) ?_
   refine DO.guarded rfl rfl rfl (q_move rfl) ?_
   refine DO.guarded rfl rfl rfl (q_ix (i := j) uT37 inf3 rfl rfl (rsQ (mG 2 rfl) hq9 hw9) (by omega) (by rw [List.length_map]; omega)) ?_
   refine DO.guarded rfl rfl rfl (q_ld uT3 rfl rfl (rsQ (mG 2 rfl) hq9 hw9) (zL_at hsj)) ?_
   refine DO.guarded rfl rfl rfl (q_ix (i := s) uT23 inf4 rfl rfl (Sl.o ha.final) (by omega) (by rw [List.length_map]; omega)) ?_
   refine DO.guarded rfl rfl rfl (q_ld uT4 rfl rfl (Sl.o ha.final) hfs) ?_
   refine DO.q rfl (q_pick0 rfl rfl) (DO.q rfl (q_assign rfl) ?_)
   refine DO.done ?_
   refine T.rg (TO.qm rfl (TO.q (q_addN (a := j) (b := 1) rfl rfl (by omega)) (TO.qa rfl (TO.nl ?_))))
   exact ⟨j + 1, by omega, rfl, by omega, ⟨rfl, rfl, rfl, rfl, rfl, rfl, rfl, rfl, rfl, rfl, rfl, (congrArg Value.bool (by rw [any_step hsj]; simp [hs89])), rfl, trivial⟩⟩
  have hge85 : ¬ j < (elZ W).length := by omega
  refine T.exit ?_
  refine T.s ?_
  have hje : j = (elN W).length := by omega
  refine T.sub (O' := [dI 37 4 3 (pdN a v i) km, oI z1 25 (dC a k), oI z2 25 [(vI 0), (vI 0), nS, nS], rsI 37 3 sb2 sc2 us2, oI z3 25 (dC (pdN a v i) km), rowI rb rc 3 1 (ints (rwX a v i W x))]) (by exact Sub.pull [oI z1 25 (dC a k), oI z2 25 [(vI 0), (vI 0), nS, nS], rsI 37 3 sb2 sc2 us2, oI z3 25 (dC (pdN a v i) km)] _ (.k (.k (.k (.k (.k .z)))))) ?_
  refine T.unpack (fun hkq => ?_)
  refine T.sub (O' := ([rowI km.nb km.nc 37 1 (vals km.qs), rowI km.fb km.fc 4 1 (bools (pdN a v i).final), oI z1 25 (dC a k), oI z2 25 [(vI 0), (vI 0), nS, nS], rsI 37 3 sb2 sc2 us2, oI z3 25 (dC (pdN a v i) km), rowI rb rc 3 1 (ints (rwX a v i W x))] ++ itms 3 km.qs)) (by exact Sub.swap3 [rowI km.nb km.nc 37 1 (vals km.qs), rowI km.fb km.fc 4 1 (bools (pdN a v i).final)] _ (itms 3 km.qs)) ?_
  have hkl : km.qs.length = i := by
   have h9 := congrArg List.length hkq
   rw [pdN_nl] at h9; simpa using h9
  have hpn := pdN_nl a v i
  have hpf := pdN_fl a v i
  refine T.rg (TO.q (q_fa uT25 rfl inf22 rfl rfl) (TO.q (q_lb 5 uT22 rfl rfl rfl rfl) (TO.qm rfl (TO.l rfl (l_build1 (v := (.slice rb x rc)) uT22 inf37 rfl rfl rfl (fun z15 => ?_))))))
  refine TO.l rfl (l_append 1 uT22 uT22 inf37 rfl rfl rfl rfl (by rw [List.length_map]; omega) (by decide) (Src.row (j := 0) rfl (by simp)) (by simp [oneB]) (by omega) (by decide) (by decide) (fun z16 zc17 => ?_))
  refine TO.q (q_fa uT25 rfl inf22 rfl rfl) (TO.l rfl (l_sb (v := (.slice z16 (((pdN a v i).next.length) + 1) zc17)) (vs := [(.slice z16 (((pdN a v i).next.length) + 1) zc17)]) 6 inf22 rfl rfl rfl rfl rfl rfl (by simp [putL]) ?_))
  refine TO.nl (T.rg (TO.q (q_fa uT25 rfl inf23 rfl rfl) (TO.q (q_lb 6 uT23 rfl rfl rfl rfl) (TO.qm rfl (TO.l rfl (l_build1 (v := .bool (((elN W).take j).any (finN a))) uT23 inf4 rfl rfl rfl (fun z18 => ?_)))))))
  refine TO.l rfl (l_append 3 uT23 uT23 inf4 rfl rfl rfl rfl (by rw [List.length_map]; omega) (by decide) (Src.row (j := 0) rfl (by simp)) (by simp [oneB]) (by omega) (by decide) (by decide) (fun z19 zc20 => ?_))
  refine TO.q (q_fa uT25 rfl inf23 rfl rfl) (TO.l rfl (l_sb (v := (.slice z19 (((pdN a v i).final.length) + 1) zc20)) (vs := [(.slice z19 (((pdN a v i).final.length) + 1) zc20)]) 7 inf23 rfl rfl rfl rfl rfl rfl (by simp [putL]) ?_))
  refine TO.nl ?_
  have hvq : vals (km.qs ++ [⟨rb, rc, rwN a v i W⟩]) = vals km.qs ++ [(.slice rb x rc)] := by simp [Rec.val, rwN_len, hxe]
  have hbq : bools (pdN a v (i + 1)).final = bools (pdN a v i).final ++ [(.bool (((elN W).take j).any (finN a)))] := by rw [pdN_final, hW, List.take_of_length_le (by omega)]; simp
  have hnl2 : (pdN a v (i + 1)).next.length = (pdN a v i).next.length + 1 := by rw [pdN_nl, pdN_nl]
  have hfl2 : (pdN a v (i + 1)).final.length = (pdN a v i).final.length + 1 := by rw [pdN_fl, pdN_fl]
  have hnq : nums (km.qs ++ [⟨rb, rc, rwN a v i W⟩]) = (pdN a v (i + 1)).next := by
   show List.map Rec.xs (km.qs ++ [_]) = _
   rw [List.map_append, show List.map Rec.xs km.qs = _ from hkq, pdN_next, hW]; rfl
  obtain ⟨z9, hz9⟩ : ∃ z : DK, z = ⟨z16, zc17, z19, zc20, km.qs ++ [⟨rb, rc, rwN a v i W⟩]⟩ := ⟨_, rfl⟩
  refine T.sub (O' := ([rowI z16 zc17 37 1 ((vals km.qs) ++ [(.slice rb x rc)]), rowI z19 zc20 4 1 ((bools (pdN a v i).final) ++ [.bool (((elN W).take j).any (finN a))]), rowI rb rc 3 1 (ints (rwX a v i W x)), oI z3 25 [(vI (pdN a v i).vars), (vI (pdN a v i).start), (.slice z16 (((pdN a v i).next.length) + 1) zc17), (.slice z19 (((pdN a v i).final.length) + 1) zc20)], oI z1 25 (dC a k), oI z2 25 [(vI 0), (vI 0), nS, nS], rsI 37 3 sb2 sc2 us2] ++ itms 3 km.qs)) (by exact Sub.d (.d (.k (.k (.pull [oI z1 25 (dC a k), oI z2 25 [(vI 0), (vI 0), nS, nS], rsI 37 3 sb2 sc2 us2, oI z3 25 [(vI (pdN a v i).vars), (vI (pdN a v i).start), (.slice z16 (((pdN a v i).next.length) + 1) zc17), (.slice z19 (((pdN a v i).final.length) + 1) zc20)]] _ (.pull [oI z1 25 (dC a k), oI z2 25 [(vI 0), (vI 0), nS, nS], rsI 37 3 sb2 sc2 us2] _ (.k (.k (.k .rf))))))))) ?_
  refine T.sub (O' := ([rowI z16 zc17 37 1 ((vals km.qs) ++ [(.slice rb x rc)]), rowI z19 zc20 4 1 ((bools (pdN a v i).final) ++ [.bool (((elN W).take j).any (finN a))]), rowI rb rc 3 1 (ints (rwN a v i W)), oI z3 25 [(vI (pdN a v i).vars), (vI (pdN a v i).start), (.slice z16 (((pdN a v i).next.length) + 1) zc17), (.slice z19 (((pdN a v i).final.length) + 1) zc20)], oI z1 25 (dC a k), oI z2 25 [(vI 0), (vI 0), nS, nS], rsI 37 3 sb2 sc2 us2] ++ itms 3 km.qs)) (by rw [← rwX_full, ← hxe]; exact Sub.rf) ?_
  refine T.sub (O' := (([rowI z16 zc17 37 1 (vals (km.qs ++ [⟨rb, rc, rwN a v i W⟩])), rowI z19 zc20 4 1 (bools (pdN a v (i + 1)).final)] ++ itms 3 (km.qs ++ [⟨rb, rc, rwN a v i W⟩])) ++ [oI z3 25 [(vI (pdN a v (i + 1)).vars), (vI (pdN a v (i + 1)).start), (.slice z16 ((pdN a v (i + 1)).next.length) zc17), (.slice z19 ((pdN a v (i + 1)).final.length) zc20)], oI z1 25 (dC a k), oI z2 25 [(vI 0), (vI 0), nS, nS], rsI 37 3 sb2 sc2 us2])) (by rw [hvq, hbq, hnl2, hfl2]; exact Sub.fold [rowI z16 zc17 37 1 ((vals km.qs) ++ [(.slice rb x rc)]), rowI z19 zc20 4 1 ((bools (pdN a v i).final) ++ [.bool (((elN W).take j).any (finN a))])] (rowI rb rc 3 1 (ints (rwN a v i W))) [oI z3 25 [(vI (pdN a v i).vars), (vI (pdN a v i).start), (.slice z16 (((pdN a v i).next.length) + 1) zc17), (.slice z19 (((pdN a v i).final.length) + 1) zc20)], oI z1 25 (dC a k), oI z2 25 [(vI 0), (vI 0), nS, nS], rsI 37 3 sb2 sc2 us2] (itms 3 km.qs) _ (itms_snoc 3 km.qs ⟨rb, rc, rwN a v i W⟩)) ?_
  refine T.pack (φ := nums (km.qs ++ [⟨rb, rc, rwN a v i W⟩]) = (pdN a v (i + 1)).next) hnq ?_
  refine T.sub (O' := [dI 37 4 3 (pdN a v (i + 1)) z9, oI z3 25 (dC (pdN a v (i + 1)) z9), oI z1 25 (dC a k), oI z2 25 [(vI 0), (vI 0), nS, nS], rsI 37 3 sb2 sc2 us2]) (by subst hz9; exact Sub.rf) ?_
  refine T.sub (O' := [oI z1 25 (dC a k), oI z2 25 [(vI 0), (vI 0), nS, nS], rsI 37 3 sb2 sc2 us2, oI z3 25 (dC (pdN a v (i + 1)) z9), dI 37 4 3 (pdN a v (i + 1)) z9]) (by exact Sub.pull [dI 37 4 3 (pdN a v (i + 1)) z9, oI z3 25 (dC (pdN a v (i + 1)) z9)] _ (.pull [dI 37 4 3 (pdN a v (i + 1)) z9, oI z3 25 (dC (pdN a v (i + 1)) z9)] _ (.pull [dI 37 4 3 (pdN a v (i + 1)) z9, oI z3 25 (dC (pdN a v (i + 1)) z9)] _ (.pull [dI 37 4 3 (pdN a v (i + 1)) z9] _ (.k .z))))) ?_
  refine T.rg (TO.qm rfl (TO.q (q_addN (a := i) (b := 1) rfl rfl (by omega)) (TO.qa rfl (TO.nl ?_))))
  exact ⟨i + 1, by omega, sb2, sc2, us2, z9, rfl, by omega, hus3, by omega, (.of rfl)⟩
 have hge41 : ¬ i < us.length := by omega
 refine T.exit ?_
 refine T.s ?_
 have hie : us.length = i := by omega
 obtain ⟨e1, e2⟩ := ex_end (d := a) (v := (v : Int)) (B := B) (i := i) hve hB1 hB2 (by show (psN a v i).length ≤ i; omega) (by omega) (by show ((psN a v i).length : Int) ≤ B; omega)
 have hpe9 : pdN a v i = exM a v (psN a v i) := pdN_end (by omega)
 obtain ⟨Tz, hT⟩ : ∃ T, T = pdN a v i := ⟨_, rfl⟩
 have hTv : Valid Tz := by
  refine ⟨?_, by rw [hT, pdN_nl]; omega⟩
  rw [hT, hpe9]; exact ex_val hv.toVal (exL_of hv.toVal hn hvv (by omega))
 have hTn : Tz.next.length = i := by rw [hT, pdN_nl]
 refine T.rg (TO.q (q_la 3 uT25 rfl inf25 rfl rfl rfl) ?_)
 have hk115 := fun (w1 : World) (hI : Inv w [oI z1 25 (dC a k), oI z2 25 [(vI 0), (vI 0), nS, nS], rsI 37 3 sb sc us, oI z3 25 (dC (pdN a v i) km), dI 37 4 3 (pdN a v i) km] w1) => (haveI := tbz hI; rMinKE w1 (pdN a v i) km (hI.at (k := km) (mG 4 rfl)) (hT ▸ hTv) (by rw [pdN_nl]; omega) (M := xsV a (v : Int) B) (by rw [e2, hpe9]; rfl))
 refine TO.l rfl (l_call ent45 (CallT.op hk115) rfl ?_)
 clear hk115
 rintro vr O' ⟨N, rfl, k9, rfl, rfl⟩
 refine TO.q (q_extract (vs := _) rfl rfl) (TO.q (q_extract (vs := _) rfl rfl) (TO.l rfl (l_sb (v := (dV (xsV a (v : Int) B) k9)) (vs := (dC (xsV a (v : Int) B) k9)) 2 inf25 rfl rfl rfl rfl rfl rfl (by simp [putL]) ?_)))
 refine TO.qa rfl (TO.nl (T.ret (Res.drop ?_)))
 refine Res.cell1b (vI 0) (i := 2) Tryz.results13 uT25 rfl inf25 rfl rfl rfl rfl ?_
 rw [e1]
 exact ⟨[dI 37 4 3 (xsV a (v : Int) B) k9], (by exact Sub.k .z), k9, rfl, rfl⟩
theorem rexC (w : World) [Tab Tryz.prog w] (a : DFA) (k : DK) (ha : At w a k) (v B : Int) (haa : a.next.length < 9223372036854775807) (haar : ∀ r ∈ a.next, r.length < 9223372036854775807) (haaf : a.final.length < 9223372036854775807) (hn : vE a v = 0 → a.next.length ≤ 64) :
  PureT Tryz.prog 13 [dV a k, vI v, vI B] w fun r N => ∃ k9 : DK, r = .tuple #[dV (xsV a v B) k9, vI (xsE a v B : Int)] ∧ N = [dI 37 4 3 (xsV a v B) k9] := by
 by_cases he : vE a v = 0
 ·by_cases hB : B < 1 ∨ 4096 < B
  ·have e1 := xsE_arg (B := B) he hB
   have e2 : xsV a v B = noD := xsV_bad (by omega)
   rw [e1, e2]
   by_cases h1 : B < 1
   ·refine (CallT.nilD 37 4 3 (rexLo w a k ha haa haar haaf v B he h1)).mono ?_
    rintro v9 N ⟨O2, rfl, rfl, rfl⟩
    exact ⟨k00, rfl, rfl⟩
   ·refine (CallT.nilD 37 4 3 (rexHi w a k ha haa haar haaf v B he (by omega))).mono ?_
    rintro v9 N ⟨O2, rfl, rfl, rfl⟩
    exact ⟨k00, rfl, rfl⟩
  ·obtain ⟨hv, h0, h1⟩ := vE_zero.1 he
   obtain ⟨n, rfl⟩ : ∃ n : Nat, v = n := ⟨v.toNat, by omega⟩
   exact rexOk w a k ha hv (hn he) n h1 B (by omega) (by omega)
 ·have e1 : xsE a v B = vE a v := xsE_bad he
  have e2 : xsV a v B = noD := xsV_bad (by omega)
  rw [e1, e2]
  refine (CallT.nilD 37 4 3 (rexBad w a k ha haa haar haaf v B he)).mono ?_
  rintro v9 N ⟨O2, rfl, rfl, rfl⟩
  exact ⟨k00, rfl, rfl⟩
end Go.Proofs.YtohkmggbfcnapaaGreatDoor


namespace Go.Proofs.YtohkmggbfcnapaaGreatDoor
open Go.Lx Go.RowKit _root_.Go.Proofs.Tryz
end Go.Proofs.YtohkmggbfcnapaaGreatDoor


namespace Go.Proofs.YtohkmggbfcnapaaGreatDoor
open Go.Lx Go.RowKit _root_.Go.Proofs.Tryz
theorem overInts (base : World) (b : Option Addr) (c c' : Nat) (xs : List Int) (hb : xs.length < 9223372036854775807) :
  CallT Tryz.prog base 88 [.slice b xs.length c'] [rowI b c 3 1 (ints xs)] (fun _ O' => O' = []) := by
 refine CallT.enter func88 rfl ntmps88 rfl ?_
 refine T.s (T.rg (TO.qa rfl (TO.nl (T.block ?_))))
 refine T.loop (fun (k : Nat) ρ O => ∃ (ys : List Int), O = [rowI b c 3 1 (ints ys)] ∧ k ≤ xs.length ∧ ys.length = xs.length ∧ Heads [(0, (.slice b xs.length c')), (2, vI (k : Int))] ρ) (fun k => xs.length - k) 0 ?_ ?_
 ·exact ⟨xs, rfl, Nat.zero_le _, rfl, ⟨rfl, rfl, trivial⟩⟩
 rintro k ρ O ⟨ys, rfl, hk, hyl, hH⟩
 obtain ⟨ρ0, rfl⟩ := hH.elim
 clear hH
 refine T.s (T.s (T.rg (TO.qm rfl (TO.qm rfl (TO.q (q_len underlying37 rfl) (TO.q (q_lss rfl rfl) (TO.nl (T.condP rfl (fun hc => ?_) (fun hc => ?_)))))))))
 ·have hlt6 : k < xs.length := by omega
  have hlt : k < ys.length := by omega
  refine T.skip (T.s (T.block (T.rg (TO.qm rfl (TO.qm rfl (TO.q (q_ix (i := k) underlying37 inf3 rfl rfl (rowO (mG 0 rfl))) (TO.l rfl (l_st (j := k) (v := vI (-77)) (vs := [(vI (-77))]) (cs := ints ys) 0 inf3 rfl rfl rfl rfl rfl (by simp) rfl (by first | (simp; omega) | (simp_all; omega)) ?_))))))))
  refine TO.sub (O' := [rowI b c 3 1 (ints (ys.set k (-77)))]) (by rw [show putL (ints ys) k [(vI (-77))] = ints (ys.set k (-77)) from by simp [putL]]; exact Sub.of (List.Sublist.refl _)) ?_
  refine TO.nl (T.rg (TO.qm rfl (TO.q (q_inc rfl rfl (by omega)) (TO.qa rfl (TO.nl ?_)))))
  exact ⟨k + 1, by omega, ys.set k (-77), rfl, by omega, by simp [hyl], ⟨rfl, rfl, trivial⟩⟩
 have hge6 : ¬ k < xs.length := by omega
 refine T.exit ?_
 refine Res.drop ?_
 refine Res.zero Tryz.results88 ?_
 exact ⟨[], Sub.of (List.nil_sublist _), rfl⟩
theorem overBools (base : World) (b : Option Addr) (c c' : Nat) (xs : List Bool) (hb : xs.length < 9223372036854775807) :
  CallT Tryz.prog base 56 [.slice b xs.length c'] [rowI b c 4 1 (bools xs)] (fun _ O' => O' = []) := by
 refine CallT.enter func56 rfl ntmps56 rfl ?_
 refine T.s (T.rg (TO.qa rfl (TO.nl (T.block ?_))))
 refine T.loop (fun (k : Nat) ρ O => ∃ (ys : List Bool), O = [rowI b c 4 1 (bools ys)] ∧ k ≤ xs.length ∧ ys.length = xs.length ∧ Heads [(0, (.slice b xs.length c')), (2, vI (k : Int))] ρ) (fun k => xs.length - k) 0 ?_ ?_
 ·exact ⟨xs, rfl, Nat.zero_le _, rfl, ⟨rfl, rfl, trivial⟩⟩
 rintro k ρ O ⟨ys, rfl, hk, hyl, hH⟩
 obtain ⟨ρ0, rfl⟩ := hH.elim
 clear hH
 refine T.s (T.s (T.rg (TO.qm rfl (TO.qm rfl (TO.q (q_len underlying23 rfl) (TO.q (q_lss rfl rfl) (TO.nl (T.condP rfl (fun hc => ?_) (fun hc => ?_)))))))))
 ·have hlt6 : k < xs.length := by omega
  have hlt : k < ys.length := by omega
  refine T.skip (T.s (T.block (T.rg (TO.qm rfl (TO.qm rfl (TO.qm rfl (TO.qm rfl (TO.q (q_ix (i := k) underlying23 inf4 rfl rfl (rowO (mG 0 rfl))) (TO.q (q_ld underlying4 rfl rfl (rowO (mG 0 rfl)) bools_get) (TO.q (q_not rfl) (TO.q (q_ix (i := k) underlying23 inf4 rfl rfl (rowO (mG 0 rfl))) (TO.l rfl (l_st (j := k) (v := .bool (!ys[k])) (vs := [(.bool (!ys[k]))]) (cs := bools ys) 0 inf4 rfl rfl rfl rfl rfl (by simp) rfl (by first | (simp; omega) | (simp_all; omega)) ?_)))))))))))))
  refine TO.sub (O' := [rowI b c 4 1 (bools (ys.set k (!ys[k])))]) (by rw [show putL (bools ys) k [(.bool (!ys[k]))] = bools (ys.set k (!ys[k])) from by simp [putL]]; exact Sub.of (List.Sublist.refl _)) ?_
  refine TO.nl (T.rg (TO.qm rfl (TO.q (q_inc rfl rfl (by omega)) (TO.qa rfl (TO.nl ?_)))))
  exact ⟨k + 1, by omega, ys.set k (!ys[k]), rfl, by omega, by simp [hyl], ⟨rfl, rfl, trivial⟩⟩
 have hge6 : ¬ k < xs.length := by omega
 refine T.exit ?_
 refine Res.drop ?_
 refine Res.zero Tryz.results56 ?_
 exact ⟨[], Sub.of (List.nil_sublist _), rfl⟩
theorem overRows (base : World) (b : Option Addr) (c c' : Nat) (qs : List Rec) (hb : qs.length < 9223372036854775807) (hbr : ∀ q ∈ qs, q.xs.length < 9223372036854775807) :
  CallT Tryz.prog base 55 [.slice b qs.length c'] (rowI b c 37 1 (vals qs) :: itms 3 qs) (fun _ O' => O' = []) := by
 refine CallT.enter func55 rfl ntmps55 rfl ?_
 refine T.s (T.rg (TO.qa rfl (TO.nl (T.block ?_))))
 refine T.loop (fun (k : Nat) ρ O => O = ([rowI b c 37 1 (vals qs)] ++ (itms 3 (qs.drop k))) ∧ k ≤ qs.length ∧ Heads [(0, (.slice b qs.length c')), (2, vI (k : Int))] ρ) (fun k => qs.length - k) 0 ?_ ?_
 ·exact ⟨rfl, Nat.zero_le _, ⟨rfl, rfl, trivial⟩⟩
 rintro k ρ O ⟨rfl, hk, hH⟩
 obtain ⟨ρ0, rfl⟩ := hH.elim
 clear hH
 refine T.s (T.s (T.rg (TO.qm rfl (TO.qm rfl (TO.q (q_len underlying22 rfl) (TO.q (q_lss rfl rfl) (TO.nl (T.condP rfl (fun hc => ?_) (fun hc => ?_)))))))))
 ·have hlt6 : k < qs.length := by omega
  have hlt : k < qs.length := by omega
  have hit : itms 3 (qs.drop k) = rowI qs[k].b qs[k].c 3 1 (ints qs[k].xs) :: itms 3 (qs.drop (k + 1)) := by rw [List.drop_eq_getElem_cons hlt]; rfl
  refine T.skip (T.s (T.block (T.rg (TO.qm rfl (TO.qm rfl (TO.q (q_ix (i := k) underlying22 inf37 rfl rfl (rowO (mG 0 rfl))) (TO.q (q_ld underlying37 rfl rfl (rowO (mG 0 rfl)) (show (vals qs)[k]? = some (.slice qs[k].b qs[k].xs.length qs[k].c) by simp [hlt, Rec.val])) ?_)))))))
  have hk13 := CallT.under (B := rowI b c 37 1 (vals qs) :: itms 3 (qs.drop (k + 1))) (O := ([rowI b c 37 1 (vals qs)] ++ (itms 3 (qs.drop k)))) (overInts base qs[k].b qs[k].c qs[k].c qs[k].xs (hbr _ (List.getElem_mem hlt))) (by rw [hit]; exact Sub.ca [])
  refine TO.l rfl (l_call ent88 hk13 rfl ?_)
  clear hk13
  rintro v O' ⟨A1, rfl, rfl⟩
  refine TO.nl (T.rg (TO.qm rfl (TO.q (q_inc rfl rfl (by omega)) (TO.qa rfl (TO.nl ?_)))))
  exact ⟨k + 1, by omega, rfl, by omega, ⟨rfl, rfl, trivial⟩⟩
 have hge6 : ¬ k < qs.length := by omega
 refine T.exit ?_
 refine Res.drop ?_
 refine Res.zero Tryz.results55 ?_
 exact ⟨[], Sub.of (List.nil_sublist _), rfl⟩
theorem overDFA (base : World) (d : DFA) (nb fb : Option Addr) (nc fc n1 f1 : Nat) (qs : List Rec) (hq : nums qs = d.next) (hb : d.next.length < 9223372036854775807) (hbr : ∀ r ∈ d.next, r.length < 9223372036854775807) (hbf : d.final.length < 9223372036854775807) :
  CallT Tryz.prog base 20 [.agg (dfaCells d nb nc fb fc).toArray] ([rowI nb n1 37 1 (vals qs), rowI fb f1 4 1 (bools d.final)] ++ itms 3 qs) (fun _ O' => O' = []) := by
 refine CallT.enter func20 rfl ntmps20 rfl ?_
 have hql : qs.length = d.next.length := by rw [← hq]; simp
 have hqr : ∀ q ∈ qs, q.xs.length < 9223372036854775807 := fun q h => hbr _ (by rw [← hq]; exact List.mem_map_of_mem h)
 refine T.s (T.rg (TO.l rfl (l_box (v := (.agg #[(vI d.vars), (vI d.start), (.slice nb d.next.length nc), (.slice fb d.final.length fc)])) (cs := [(vI d.vars), (vI d.start), (.slice nb d.next.length nc), (.slice fb d.final.length fc)]) rfl rfl (fun b1 => ?_))))
 refine TO.nl (T.s (T.rg (TO.q (q_fa underlying25 rfl inf22 rfl rfl) (TO.q (q_lb 0 underlying22 rfl rfl rfl rfl) ?_))))
 have hk4 := CallT.under (B := [oI b1 25 [(vI d.vars), (vI d.start), (.slice nb d.next.length nc), (.slice fb d.final.length fc)], rowI fb f1 4 1 (bools d.final)]) (O := ([oI b1 25 [(vI d.vars), (vI d.start), (.slice nb d.next.length nc), (.slice fb d.final.length fc)], rowI nb n1 37 1 (vals qs), rowI fb f1 4 1 (bools d.final)] ++ (itms 3 qs))) (hql ▸ overRows base nb n1 nc qs (by omega) hqr) (Sub.ca [])
 refine TO.l rfl (l_call ent55 hk4 rfl ?_)
 clear hk4
 rintro v O' ⟨A1, rfl, rfl⟩
 refine TO.nl (T.rg (TO.q (q_fa underlying25 rfl inf23 rfl rfl) (TO.q (q_lb 0 underlying23 rfl rfl rfl rfl) ?_)))
 have hk7 := CallT.under (B := [oI b1 25 [(vI d.vars), (vI d.start), (.slice nb d.next.length nc), (.slice fb d.final.length fc)]]) (O := [oI b1 25 [(vI d.vars), (vI d.start), (.slice nb d.next.length nc), (.slice fb d.final.length fc)], rowI fb f1 4 1 (bools d.final)]) (overBools base fb f1 fc d.final hbf) (Sub.ca [])
 refine TO.l rfl (l_call ent56 hk7 rfl ?_)
 clear hk7
 rintro v O' ⟨A1, rfl, rfl⟩
 refine TO.nl (Res.drop ?_)
 refine Res.zero Tryz.results20 ?_
 exact ⟨[], Sub.of (List.nil_sublist _), rfl⟩
end Go.Proofs.YtohkmggbfcnapaaGreatDoor


namespace Go.Proofs.YtohkmggbfcnapaaGreatDoor
open Go.Lx Go.RowKit _root_.Go.Proofs.Tryz
theorem copyK (w : World) [Tab Tryz.prog w] (d : DFA) (k : DK) (h : At w d k) (hb : d.next.length * 24 ≤ 70368744177664) (hbr : ∀ r ∈ d.next, r.length * 8 ≤ 70368744177664) (hbf : d.final.length * 1 ≤ 70368744177664) :
  PureT Tryz.prog 12 [dV d k] w fun v N => ∃ k' : DK, v = dV d k' ∧ N = [dI 37 4 3 d k'] := CallT.dk (g := id) (copyDFA w d k.nb k.fb k.nc k.fc (vals k.qs) h hb hbr hbf)
theorem overK (base : World) [Tab Tryz.prog base] (d : DFA) (k : DK) (hb : d.next.length < 9223372036854775807) (hbr : ∀ r ∈ d.next, r.length < 9223372036854775807) (hbf : d.final.length < 9223372036854775807) :
  CallT Tryz.prog base 20 [dV d k] [dI 37 4 3 d k] (fun _ O' => O' = []) :=
 CallT.packO (M := []) fun hq => by rw [List.append_nil]; exact overDFA base d k.nb k.fb k.nc k.fc k.nc k.fc k.qs hq hb hbr hbf
theorem refNotBad (w : World) [Tab Tryz.prog w] (a : DFA) (j : DK) (ha : At w a j) (haa : a.next.length < 9223372036854775807) (haar : ∀ r ∈ a.next, r.length < 9223372036854775807) (haaf : a.final.length < 9223372036854775807) (he : checkD a ≠ 0) :
  PureT Tryz.prog 46 [dV a j] w fun v N => ∃ k' : DK, v = .tuple #[dV (opV notB a a) k', vI (checkD a : Int)] ∧ N = [dI 37 4 3 (opV notB a a) k'] := by
 refine CallT.enter func46 rfl ntmps46 rfl ?_
 refine T.s (T.rg (TO.l rfl (l_box (v := (dV a j)) (cs := (dC a j)) rfl rfl (fun bx1 => ?_))))
 refine TO.l rfl (l_alloc inf25 rfl (fun bx2 => ?_))
 refine TO.qa rfl (TO.nl (T.s (T.rg (TO.q (q_la 1 uT25 rfl inf25 rfl rfl rfl) ?_))))
 have hk8 := fun (w1 : World) (hI : Inv w [oI bx2 25 [(vI 0), (vI 0), nS, nS], oI bx1 25 (dC a j)] w1) => (haveI := tbz hI; refCheck w1 a j.nb j.fb j.nc j.fc (vals j.qs) (hI.dfa ha) haa haar haaf)
 refine TO.l rfl (l_call ent21 (CallT.op hk8) rfl ?_)
 clear hk8
 rintro vr O' ⟨N, rfl, rfl, rfl⟩
 refine TO.qa rfl (TO.nl (T.s (T.s (T.rg (TO.qm rfl (TO.q (q_neq rfl rfl) (TO.nl ?_)))))))
 refine T.cond1 (congrArg Value.bool (decide_eq_true (by omega))) ?_
 refine T.s ?_
 refine T.nilD 37 4 3 ?_
 refine T.rg (TO.q (q_build plan25 inf25 rfl) (TO.qm rfl (TO.l rfl (l_sb (v := (.agg #[(vI 0), (vI 0), nS, nS])) (vs := [(vI 0), (vI 0), nS, nS]) 1 inf25 rfl rfl rfl rfl rfl rfl (by simp [putL]) ?_))))
 refine TO.qa rfl (TO.nl (T.ret (Res.drop ?_)))
 refine Res.cell1b (vI (checkD a : Int)) (i := 1) Tryz.results46 uT25 rfl inf25 rfl rfl rfl rfl ?_
 rw [opV_bad (by rw [wrongD_self]; exact he)]
 exact ⟨[dI 37 4 3 noD k00], (by exact Sub.k .z), k00, rfl, rfl⟩
theorem refNotOk (w : World) [Tab Tryz.prog w] (a : DFA) (j : DK) (ha : At w a j) (haa : a.next.length < 9223372036854775807) (haar : ∀ r ∈ a.next, r.length < 9223372036854775807) (haaf : a.final.length < 9223372036854775807) (va : Valid a) :
  PureT Tryz.prog 46 [dV a j] w fun v N => ∃ k' : DK, v = .tuple #[dV (opV notB a a) k', vI (checkD a : Int)] ∧ N = [dI 37 4 3 (opV notB a a) k'] := by
 refine CallT.enter func46 rfl ntmps46 rfl ?_
 have he := checkD_zero.2 va
 have hfin := va.fin
 refine T.s (T.rg (TO.l rfl (l_box (v := (dV a j)) (cs := (dC a j)) rfl rfl (fun z1 => ?_))))
 refine TO.l rfl (l_alloc inf25 rfl (fun z2 => ?_))
 refine TO.qa rfl (TO.nl (T.s (T.rg (TO.q (q_la 1 uT25 rfl inf25 rfl rfl rfl) ?_))))
 have hk8 := fun (w1 : World) (hI : Inv w [oI z2 25 [(vI 0), (vI 0), nS, nS], oI z1 25 (dC a j)] w1) => (haveI := tbz hI; refCheck w1 a j.nb j.fb j.nc j.fc (vals j.qs) (hI.dfa ha) haa haar haaf)
 refine TO.l rfl (l_call ent21 (CallT.op hk8) rfl ?_)
 clear hk8
 rintro vr O' ⟨N, rfl, rfl, rfl⟩
 rw [he]
 refine TO.qa rfl (TO.nl (T.s (T.s (T.rg (TO.qm rfl (TO.q (q_neq rfl rfl) (TO.nl (T.cond0 rfl (T.skip (T.s (T.rg (TO.q (q_la 1 uT25 rfl inf25 rfl rfl rfl) ?_))))))))))))
 have hk14 := fun (w1 : World) (hI : Inv w [oI z2 25 [(vI 0), (vI 0), nS, nS], oI z1 25 (dC a j)] w1) => (haveI := tbz hI; copyK w1 a j (hI.atB ha) (by have := va.n4; omega) (fun r hr => by have := va.len r hr; have := va.width; omega) (by have := va.fin; have := va.n4; omega))
 refine TO.l rfl (l_call ent12 (CallT.op hk14) rfl ?_)
 clear hk14
 rintro vr O' ⟨N, rfl, k1, rfl, rfl⟩
 refine TO.l rfl (l_alloc inf25 rfl (fun z3 => ?_))
 refine TO.l rfl (l_sb (v := (dV a k1)) (vs := (dC a k1)) 0 inf25 rfl rfl rfl rfl rfl rfl (by simp [putL]) ?_)
 refine TO.nl (T.s (T.s (T.rg (TO.qa rfl (TO.nl (T.block ?_))))))
 refine T.sub (O' := [dI 37 4 3 a k1, oI z3 25 (dC a k1), oI z2 25 [(vI 0), (vI 0), nS, nS], oI z1 25 (dC a j)]) (by exact Sub.pull [oI z3 25 (dC a k1)] _ (.k (.k (.k .z)))) ?_
 refine T.unpack (fun hqs => ?_)
 refine T.sub (O' := ([rowI k1.nb k1.nc 37 1 (vals k1.qs), rowI k1.fb k1.fc 4 1 (bools a.final), oI z3 25 (dC a k1), oI z2 25 [(vI 0), (vI 0), nS, nS], oI z1 25 (dC a j)] ++ itms 3 k1.qs)) (by exact Sub.swap3 [rowI k1.nb k1.nc 37 1 (vals k1.qs), rowI k1.fb k1.fc 4 1 (bools a.final)] _ (itms 3 k1.qs)) ?_
 refine T.loop (fun (s : Nat) ρ O => ∃ (fs : List Bool), O = ([rowI k1.nb k1.nc 37 1 (vals k1.qs), rowI k1.fb k1.fc 4 1 (bools fs), oI z3 25 (dC a k1), oI z2 25 [(vI 0), (vI 0), nS, nS], oI z1 25 (dC a j)] ++ (itms 3 k1.qs)) ∧ s ≤ a.final.length ∧ fs.length = a.final.length ∧ (∀ i, fs[i]? = if i < s then a.final[i]?.map (!·) else a.final[i]?) ∧ Heads [(0, (dV a j)), (1, (.pointer (aD z1))), (2, (.pointer (aD z2))), (3, vI 0), (4, vI ((0 : Nat) : Int)), (5, (.pointer (aD z3))), (6, vI ((s : Nat) : Int))] ρ) (fun s => a.final.length - s) 0 ?_ ?_
 ·exact ⟨a.final, rfl, Nat.zero_le _, rfl, fun i => by simp, (.of rfl)⟩
 rintro s ρ O ⟨fs, rfl, hs, hfl, hfs, hH⟩
 obtain ⟨ρ0, rfl⟩ := hH.elim
 clear hH
 refine T.s (T.s (T.rg (TO.qm rfl (TO.q (q_fa uT25 rfl inf23 rfl rfl) (TO.q (q_lb 2 uT23 rfl rfl rfl rfl) (TO.q (q_len uT23 rfl) (TO.q (q_lss rfl rfl) (TO.nl (T.condP rfl (fun hc => ?_) (fun hc => ?_))))))))))
 ·have hlt19 : s < a.final.length := by omega
  refine T.skip (T.s (T.block ?_))
  refine T.draws [rowI k1.nb k1.nc 37 1 (vals k1.qs), rowI k1.fb k1.fc 4 1 (bools fs), oI z3 25 (dC a k1), oI z2 25 [(vI 0), (vI 0), nS, nS], oI z1 25 (dC a j)] [(0, 0), (1, 0), (2, 0), (3, 0), (4, 0), (5, 0), (6, 0), (7, 0), (8, 0), (9, 0), (10, 2)] mixed (by kernel_rfl) (by exact Sub.k (.k (.k (.k (.k .z))))) (fun _ _ _ h => h) ?_
  refine DO.q rfl (q_fa uT25 rfl inf23 rfl rfl) (DO.q rfl (q_lb 2 uT23 rfl rfl rfl rfl) (DO.q rfl (q_move rfl) (DO.q rfl (q_fa uT25 rfl inf23 rfl rfl) ?_)))
  refine DO.q rfl (q_lb 2 uT23 rfl rfl rfl rfl) (DO.q rfl (q_move rfl) (DO.q rfl (q_ix (i := s) uT23 inf4 rfl rfl (rowO (mG 1 rfl)) hlt19 (by rw [List.length_map]; omega)) (DO.q rfl (q_ld uT4 rfl rfl (rowO (mG 1 rfl)) (show (bools fs)[s]? = some (.bool a.final[s]) by rw [List.getElem?_map, hfs s, if_neg (by omega), List.getElem?_eq_getElem hlt19]; rfl)) ?_)))
  refine DO.q rfl (q_not rfl) (DO.q rfl (q_ix (i := s) uT23 inf4 rfl rfl (rowO (mG 1 rfl)) hlt19 (by rw [List.length_map]; omega)) ?_)
  refine DO.last rfl rfl (l_st (j := s) (v := .bool (!a.final[s])) (vs := [(.bool (!a.final[s]))]) (cs := bools fs) 1 inf4 rfl rfl rfl rfl rfl (by simp) rfl (by first | (simp; omega) | (simp_all; omega)) ?_)
  refine DO.sub (O' := ([rowI k1.nb k1.nc 37 1 (vals k1.qs), rowI k1.fb k1.fc 4 1 (bools (fs.set s (!a.final[s]))), oI z3 25 (dC a k1), oI z2 25 [(vI 0), (vI 0), nS, nS], oI z1 25 (dC a j)] ++ (itms 3 k1.qs))) (by rw [show putL (bools fs) s [(.bool (!a.final[s]))] = bools (fs.set s (!a.final[s])) from by simp [putL]]; exact Sub.of (List.Sublist.refl _)) ?_
  refine DO.done ?_
  refine T.rg (TO.qm rfl (TO.q (q_addN (a := s) (b := 1) rfl rfl (by omega)) (TO.qa rfl (TO.nl ?_))))
  refine ⟨s + 1, by omega, fs.set s (!a.final[s]), rfl, by omega, by simp [hfl], fun i => ?_, (.of rfl)⟩
  by_cases e : i = s
  ·subst e; rw [List.getElem?_set_self (by omega), if_pos (by omega), List.getElem?_eq_getElem hlt19]; rfl
  ·rw [List.getElem?_set_ne (fun h => e h.symm), hfs i]
   by_cases e2 : i < s
   ·rw [if_pos e2, if_pos (by omega)]
   ·rw [if_neg e2, if_neg (by omega)]
 have hge19 : ¬ s < a.final.length := by omega
 refine T.exit ?_
 refine T.s ?_
 have hfe : fs = a.final.map (!·) := by
  apply List.ext_getElem?
  intro i
  rw [hfs i, List.getElem?_map]
  by_cases e2 : i < s
  ·rw [if_pos e2]
  ·rw [if_neg e2, List.getElem?_eq_none (by omega)]; rfl
 obtain ⟨W, hW⟩ : ∃ W, W = flipD a := ⟨_, rfl⟩
 have e2 : fs = W.final := by rw [hW, hfe]; rfl
 have hqW : nums k1.qs = W.next := by rw [hW, hqs]; rfl
 subst e2
 have vW : Valid W := hW ▸ flip_valid va
 obtain ⟨M, hM⟩ : ∃ M, minD W = M := ⟨_, rfl⟩
 have hM2 : opD notB a a = M := by rw [← hM, hW]; exact (notD_flipW va).symm
 have hfl2 : W.final.length = a.final.length := hfl
 refine T.sub (O' := (([rowI k1.nb k1.nc 37 1 (vals k1.qs), rowI k1.fb k1.fc 4 1 (bools W.final)] ++ itms 3 k1.qs) ++ [oI z3 25 (dC a k1), oI z2 25 [(vI 0), (vI 0), nS, nS], oI z1 25 (dC a j)])) (by exact Sub.swap3 [rowI k1.nb k1.nc 37 1 (vals k1.qs), rowI k1.fb k1.fc 4 1 (bools W.final)] (itms 3 k1.qs) [oI z3 25 (dC a k1), oI z2 25 [(vI 0), (vI 0), nS, nS], oI z1 25 (dC a j)]) ?_
 refine T.pack (φ := nums k1.qs = W.next) hqW ?_
 refine T.sub (O' := [dI 37 4 3 W k1, oI z3 25 (dC W k1), oI z2 25 [(vI 0), (vI 0), nS, nS], oI z1 25 (dC a j)]) (by rw [show dC W k1 = dC a k1 by subst hW; simp [flipD]]; exact Sub.rf) ?_
 refine T.rg (TO.q (q_la 1 uT25 rfl inf25 rfl rfl rfl) ?_)
 have hk33 := fun (w1 : World) (hI : Inv w [dI 37 4 3 W k1, oI z3 25 (dC W k1), oI z2 25 [(vI 0), (vI 0), nS, nS], oI z1 25 (dC a j)] w1) => (haveI := tbz hI; rMinKE w1 W k1 (hI.at (k := k1) (mG 0 rfl)) vW (by rw [hW]; show a.next.length < 10000; have := va.n4; omega) hM)
 refine TO.l rfl (l_call ent45 (CallT.op hk33) rfl ?_)
 clear hk33
 rintro vr O' ⟨N, rfl, k', rfl, rfl⟩
 refine TO.q (q_extract (vs := _) rfl rfl) (TO.q (q_extract (vs := _) rfl rfl) (TO.l rfl (l_sb (v := (dV M k')) (vs := (dC M k')) 3 inf25 rfl rfl rfl rfl rfl rfl (by simp [putL]) ?_)))
 refine TO.qa rfl (TO.nl (T.ret (Res.drop ?_)))
 refine Res.cell1b (vI 0) (i := 3) Tryz.results46 uT25 rfl inf25 rfl rfl rfl rfl ?_
 rw [opV_ok (by rw [wrongD_self]; exact he), hM2]
 exact ⟨[dI 37 4 3 M k'], (by exact Sub.k .z), k', rfl, rfl⟩
end Go.Proofs.YtohkmggbfcnapaaGreatDoor


namespace Go.Proofs.YtohkmggbfcnapaaGreatDoor
open Go.Lx Go.RowKit _root_.Go.Proofs.Tryz
theorem rnotM (w : World) [Tab Tryz.prog w] (a : DFA) (k : DK) (ha : At w a k) (haa : a.next.length < 9223372036854775807) (haar : ∀ r ∈ a.next, r.length < 9223372036854775807) (haaf : a.final.length < 9223372036854775807) :
  PureT Tryz.prog 46 [dV a k] w fun v N => ∃ k' : DK, v = .tuple #[dV (minV (flipD a)) k', vI (checkD a : Int)] ∧ N = [dI 37 4 3 (minV (flipD a)) k'] := by
 by_cases he : checkD a = 0
 ·have h := refNotOk w a k ha haa haar haaf (checkD_zero.1 he)
  rwa [notV_eq] at h
 ·have h := refNotBad w a k ha haa haar haaf he
  rwa [notV_eq] at h
theorem rnotMK (w : World) [Tab Tryz.prog w] (a : DFA) (k : DK) (ha : At w a k) (hv : Valid a) {M : DFA} (hM : minD (flipD a) = M) :
  PureT Tryz.prog 46 [dV a k] w fun v N => ∃ k' : DK, v = .tuple #[dV M k', vI 0] ∧ N = [dI 37 4 3 M k'] := by
 have h := rnotM w a k ha (by have := hv.n4; omega) hv.bound (by have := hv.fin; have := hv.n4; omega)
 rw [minV_valid (flip_valid hv), hM, checkD_zero.2 hv] at h
 exact h
theorem ralBad (w : World) [Tab Tryz.prog w] (a : DFA) (k : DK) (ha : At w a k) (haa : a.next.length < 9223372036854775807) (haar : ∀ r ∈ a.next, r.length < 9223372036854775807) (haaf : a.final.length < 9223372036854775807) (v B : Int) (he : checkD a ≠ 0) :
  PureT Tryz.prog 14 [dV a k, vI v, vI B] w fun v9 N => v9 = .tuple #[dV noD ⟨none, 0, none, 0, []⟩, vI (checkD a : Int)] ∧ N = [] := by
 refine CallT.enter func14 rfl ntmps14 rfl ?_
 refine T.s (T.rg (TO.l rfl (l_box (v := (dV a k)) (cs := (dC a k)) rfl rfl (fun bx1 => ?_))))
 refine TO.l rfl (l_alloc inf25 rfl (fun bx2 => ?_))
 refine TO.qa rfl (TO.nl (T.s (T.rg (TO.q (q_la 1 uT25 rfl inf25 rfl rfl rfl) ?_))))
 have hk13 := fun (w1 : World) (hI : Inv w [oI bx2 25 [(vI 0), (vI 0), nS, nS], oI bx1 25 (dC a k)] w1) => (haveI := tbz hI; rnotM w1 a k (hI.atB ha) haa haar haaf)
 refine TO.l rfl (l_call ent46 (CallT.op hk13) rfl ?_)
 clear hk13
 rintro vr O' ⟨N, rfl, k1, rfl, rfl⟩
 refine TO.qm rfl (TO.q (q_extract (vs := _) rfl rfl) (TO.q (q_extract (vs := _) rfl rfl) (TO.l rfl (l_alloc inf25 rfl (fun bx3 => ?_)))))
 refine TO.l rfl (l_sb (v := (dV (minV (flipD a)) k1)) (vs := (dC (minV (flipD a)) k1)) 0 inf25 rfl rfl rfl rfl rfl rfl (by simp [putL]) ?_)
 refine TO.qa rfl (TO.nl ?_)
 refine T.reset [oI bx3 25 (dC (minV (flipD a)) k1), dI 37 4 3 (minV (flipD a)) k1, oI bx2 25 [(vI 0), (vI 0), nS, nS], oI bx1 25 (dC a k)] [(0, (dV a k)), (1, vI v), (2, vI B), (3, (.pointer (aD bx1))), (6, (.pointer (aD bx2))), (7, vI 0), (8, (.pointer (aD bx3))), (9, vI (checkD a : Int))] rfl (.of rfl) (fun ρ0 => ?_)
 refine T.s (T.s (T.rg (TO.qm rfl (TO.q (QT.toB (q_neq rfl rfl) (decide_eq_true (by omega))) (TO.nl ?_)))))
 refine T.cond1 rfl ?_
 refine T.s (T.rg (TO.q (q_build plan25 inf25 rfl) (TO.qm rfl (TO.l rfl (l_sb (v := (.agg #[(vI 0), (vI 0), nS, nS])) (vs := [(vI 0), (vI 0), nS, nS]) 2 inf25 rfl rfl rfl rfl rfl rfl (by simp [putL]) ?_)))))
 refine TO.qa rfl (TO.nl (T.ret (Res.drop ?_)))
 refine Res.cell1b (vI (checkD a : Int)) (i := 2) Tryz.results14 uT25 rfl inf25 rfl rfl rfl rfl ?_
 exact ⟨[], Sub.z, rfl, rfl⟩
theorem ralOk (w : World) [Tab Tryz.prog w] (a : DFA) (k : DK) (ha : At w a k) (hv : Valid a) (hn : a.next.length ≤ 64) (v B : Int) :
  PureT Tryz.prog 14 [dV a k, vI v, vI B] w fun r N => ∃ k9 : DK, r = .tuple #[dV (alV a v B) k9, vI (alE a v B : Int)] ∧ N = [dI 37 4 3 (alV a v B) k9] := by
 refine CallT.enter func14 rfl ntmps14 rfl ?_
 obtain ⟨N1, hN1⟩ : ∃ m, minD (flipD a) = m := ⟨_, rfl⟩
 have hNv : Valid N1 := hN1 ▸ minD_valid (flip_valid hv)
 have hNn : N1.next.length ≤ 64 := by rw [← hN1]; exact Nat.le_trans (minD_len (flip_val hv.toVal)) hn
 have e1 : alE a v B = xsE N1 v B := by rw [← hN1]; exact alE_val hv
 obtain ⟨X, hX⟩ : ∃ m, xsV N1 v B = m := ⟨_, rfl⟩
 obtain ⟨e, hE⟩ : ∃ m, xsE N1 v B = m := ⟨_, rfl⟩
 refine T.s (T.rg (TO.l rfl (l_box (v := (dV a k)) (cs := (dC a k)) rfl rfl (fun z1 => ?_))))
 refine TO.l rfl (l_alloc inf25 rfl (fun z2 => ?_))
 refine TO.qa rfl (TO.nl (T.s (T.rg (TO.q (q_la 1 uT25 rfl inf25 rfl rfl rfl) ?_))))
 have hk13 := fun (w1 : World) (hI : Inv w [oI z2 25 [(vI 0), (vI 0), nS, nS], oI z1 25 (dC a k)] w1) => (haveI := tbz hI; rnotMK w1 a k (hI.atB ha) hv hN1)
 refine TO.l rfl (l_call ent46 (CallT.op hk13) rfl ?_)
 clear hk13
 rintro vr O' ⟨N, rfl, k1, rfl, rfl⟩
 refine TO.qm rfl (TO.q (q_extract (vs := _) rfl rfl) (TO.q (q_extract (vs := _) rfl rfl) (TO.l rfl (l_alloc inf25 rfl (fun z3 => ?_)))))
 refine TO.l rfl (l_sb (v := (dV N1 k1)) (vs := (dC N1 k1)) 0 inf25 rfl rfl rfl rfl rfl rfl (by simp [putL]) ?_)
 refine TO.qa rfl (TO.nl ?_)
 refine T.reset [oI z3 25 (dC N1 k1), dI 37 4 3 N1 k1, oI z2 25 [(vI 0), (vI 0), nS, nS], oI z1 25 (dC a k)] [(0, (dV a k)), (1, vI v), (2, vI B), (3, (.pointer (aD z1))), (6, (.pointer (aD z2))), (7, vI 0), (8, (.pointer (aD z3))), (9, vI 0)] rfl (.of rfl) (fun ρ0 => ?_)
 refine T.s (T.s (T.rg (TO.qm rfl (TO.q (QT.toB (q_neq rfl rfl) (decide_eq_false (fun h => h rfl))) (TO.nl (T.cond0 rfl (T.skip (T.s (T.rg (TO.q (q_la 0 uT25 rfl inf25 rfl rfl rfl) (TO.qm rfl (TO.qm rfl ?_))))))))))))
 have hk24 := fun (w1 : World) (hI : Inv w [oI z3 25 (dC N1 k1), dI 37 4 3 N1 k1, oI z2 25 [(vI 0), (vI 0), nS, nS], oI z1 25 (dC a k)] w1) => (haveI := tbz hI; (show PureT _ _ _ _ _ from by
   have h9 := rexC w1 N1 k1 (hI.at (k := k1) (mG 1 rfl)) v B (by have := hNv.n4; omega) hNv.bound (by have := hNv.fin; have := hNv.n4; omega) (fun _ => hNn)
   rw [hX, hE] at h9
   exact h9))
 refine TO.l rfl (l_call ent13 (CallT.op hk24) rfl ?_)
 clear hk24
 rintro vr O' ⟨N, rfl, k2, rfl, rfl⟩
 refine TO.qm rfl (TO.q (q_extract (vs := _) rfl rfl) (TO.q (q_extract (vs := _) rfl rfl) (TO.l rfl (l_alloc inf25 rfl (fun z4 => ?_)))))
 refine TO.l rfl (l_sb (v := (dV X k2)) (vs := (dC X k2)) 0 inf25 rfl rfl rfl rfl rfl rfl (by simp [putL]) ?_)
 refine TO.qa rfl (TO.nl (T.s (T.s (T.rg (TO.qm rfl (TO.q (q_neq rfl rfl) (TO.nl (T.condP rfl (fun hc => ?_) (fun hc => ?_)))))))))
 ·have hlt28 : e ≠ 0 := by omega
  have he0 : e ≠ 0 := by omega
  refine T.s ?_
  refine T.nilD 37 4 3 ?_
  refine T.rg (TO.q (q_build plan25 inf25 rfl) (TO.qm rfl (TO.l rfl (l_sb (v := (.agg #[(vI 0), (vI 0), nS, nS])) (vs := [(vI 0), (vI 0), nS, nS]) 5 inf25 rfl rfl rfl rfl rfl rfl (by simp [putL]) ?_))))
  refine TO.qa rfl (TO.nl (T.ret (Res.drop ?_)))
  refine Res.cell1b (vI (e : Int)) (i := 5) Tryz.results14 uT25 rfl inf25 rfl rfl rfl rfl ?_
  rw [show alV a v B = noD from if_neg (by omega), e1, hE]
  exact ⟨[dI 37 4 3 noD k00], (by exact Sub.k .z), k00, rfl, rfl⟩
 have hge28 : ¬ e ≠ 0 := by omega
 have he0 : e = 0 := by omega
 have hXv := (xsV_valid hNn (v := v) (B := B) (by omega)).1
 rw [hX] at hXv
 obtain ⟨Y, hY⟩ : ∃ m, minD (flipD X) = m := ⟨_, rfl⟩
 refine T.skip (T.s (T.rg (TO.q (q_la 0 uT25 rfl inf25 rfl rfl rfl) ?_)))
 have hk32 := fun (w1 : World) (hI : Inv w [oI z4 25 (dC X k2), dI 37 4 3 X k2, oI z3 25 (dC N1 k1), dI 37 4 3 N1 k1, oI z2 25 [(vI 0), (vI 0), nS, nS], oI z1 25 (dC a k)] w1) => (haveI := tbz hI; rnotMK w1 X k2 (hI.at (k := k2) (mG 1 rfl)) hXv hY)
 refine TO.l rfl (l_call ent46 (CallT.op hk32) rfl ?_)
 clear hk32
 rintro vr O' ⟨N, rfl, k3, rfl, rfl⟩
 refine TO.q (q_extract (vs := _) rfl rfl) (TO.q (q_extract (vs := _) rfl rfl) (TO.l rfl (l_sb (v := (dV Y k3)) (vs := (dC Y k3)) 5 inf25 rfl rfl rfl rfl rfl rfl (by simp [putL]) ?_)))
 refine TO.qa rfl (TO.nl (T.ret (Res.drop ?_)))
 refine Res.cell1b (vI 0) (i := 5) Tryz.results14 uT25 rfl inf25 rfl rfl rfl rfl ?_
 rw [show alV a v B = Y by unfold alV; rw [if_pos (by omega), hN1, hX, hY], e1, hE, he0]
 exact ⟨[dI 37 4 3 Y k3], (by exact Sub.k .z), k3, rfl, rfl⟩
theorem ralC (w : World) [Tab Tryz.prog w] (a : DFA) (k : DK) (ha : At w a k) (v B : Int) (haa : a.next.length < 9223372036854775807) (haar : ∀ r ∈ a.next, r.length < 9223372036854775807) (haaf : a.final.length < 9223372036854775807) (hn : Valid a → a.next.length ≤ 64) :
  PureT Tryz.prog 14 [dV a k, vI v, vI B] w fun r N => ∃ k9 : DK, r = .tuple #[dV (alV a v B) k9, vI (alE a v B : Int)] ∧ N = [dI 37 4 3 (alV a v B) k9] := by
 by_cases he : checkD a = 0
 ·have hv := checkD_zero.1 he
  exact ralOk w a k ha hv (hn hv) v B
 ·obtain ⟨e1, e2⟩ := alE_bad (v := v) (B := B) he
  rw [e1, e2]
  refine (CallT.nilD 37 4 3 (ralBad w a k ha haa haar haaf v B he)).mono ?_
  rintro v9 N ⟨O2, rfl, rfl, rfl⟩
  exact ⟨k00, rfl, rfl⟩
theorem rigBad (w : World) [Tab Tryz.prog w] (a : DFA) (k : DK) (ha : At w a k) (haa : a.next.length < 9223372036854775807) (haar : ∀ r ∈ a.next, r.length < 9223372036854775807) (haaf : a.final.length < 9223372036854775807) (v : Int) (he : vE a v ≠ 0) :
  PureT Tryz.prog 15 [dV a k, vI v] w fun r N => r = .tuple #[.bool false, vI (vE a v : Int)] ∧ N = [] := by
 refine CallT.enter func15 rfl ntmps15 rfl ?_
 refine T.s (T.rg (TO.l rfl (l_box (v := (dV a k)) (cs := (dC a k)) rfl rfl (fun bx1 => ?_))))
 refine TO.qa rfl (TO.qa rfl (TO.nl (T.s (T.rg (TO.q (q_la 0 uT25 rfl inf25 rfl rfl rfl) (TO.qm rfl ?_))))))
 have hk13 := fun (w1 : World) (hI : Inv w [oI bx1 25 (dC a k)] w1) => (haveI := tbz hI; (show PureT _ _ _ _ _ from by
   have h9 := wrongC w1 a k (hI.atB ha) haa haar haaf v 0 (.inl rfl)
   rw [wrE_zero] at h9
   exact h9))
 refine TO.l rfl (l_call ent41 (CallT.op hk13) rfl ?_)
 clear hk13
 rintro vr O' ⟨N, rfl, rfl, rfl⟩
 refine TO.qa rfl (TO.nl (T.s (T.s (T.rg (TO.qm rfl (TO.q (QT.toB (q_neq rfl rfl) (decide_eq_true (by omega))) (TO.nl ?_)))))))
 refine T.cond1 rfl ?_
 refine T.s (T.rg (TO.qm rfl (TO.qa rfl (TO.qa rfl (TO.nl (T.ret (Res.drop ?_)))))))
 refine Res.two (.bool false) (vI (vE a v : Int)) Tryz.results15 rfl rfl ?_
 exact ⟨[], Sub.z, rfl, rfl⟩
theorem rigOk (w : World) [Tab Tryz.prog w] (a : DFA) (k : DK) (ha : At w a k) (hv : Valid a) (v : Nat) (hva : (v : Int) < a.vars) {M : DFA} (hM : minD a = M) :
  PureT Tryz.prog 15 [dV a k, vI ((v : Nat) : Int)] w fun r N => r = .tuple #[.bool (ignB M v), vI 0] ∧ N = [] := by
 refine CallT.enter func15 rfl ntmps15 rfl ?_
 have he := checkD_zero.2 hv
 have h4 := hv.n4
 have hww : letN a ≤ 64 := hv.width
 have hfin := hv.fin
 have hvl := ha.rows.1
 have hsl := start_lt hv.toVal
 have hs0 := hv.s0
 have hs1 := hv.s1
 have hve : vE a v = 0 := vE_zero.2 ⟨hv, by omega, hva⟩
 have hMv : Valid M := hM ▸ minD_valid hv
 have hMs : M.vars = a.vars := by rw [← hM]; rfl
 have hv6 := hv.v6
 have hMn := hMv.n4
 have hlw : letN M ≤ 64 := hMv.width
 have hv5 : v < 6 := by omega
 refine T.s (T.rg (TO.l rfl (l_box (v := (dV a k)) (cs := (dC a k)) rfl rfl (fun z1 => ?_))))
 refine TO.qa rfl (TO.qa rfl (TO.nl (T.s (T.rg (TO.q (q_la 0 uT25 rfl inf25 rfl rfl rfl) (TO.qm rfl ?_))))))
 have hk13 := fun (w1 : World) (hI : Inv w [oI z1 25 (dC a k)] w1) => (haveI := tbz hI; (show PureT _ _ _ _ _ from by
   have h9 := wrongC w1 a k (hI.atB ha) (by omega) hv.bound (by omega) (v : Int) 0 (.inl rfl)
   rw [wrE_zero, hve] at h9
   exact h9))
 refine TO.l rfl (l_call ent41 (CallT.op hk13) rfl ?_)
 clear hk13
 rintro vr O' ⟨N, rfl, rfl, rfl⟩
 refine TO.qa rfl (TO.nl (T.s (T.s (T.rg (TO.qm rfl (TO.q (QT.toB (q_neq rfl rfl) (decide_eq_false (by omega))) (TO.nl (T.cond0 rfl (T.skip (T.s (T.rg (TO.q (q_la 0 uT25 rfl inf25 rfl rfl rfl) ?_))))))))))))
 have hk19 := fun (w1 : World) (hI : Inv w [oI z1 25 (dC a k)] w1) => (haveI := tbz hI; rMinKE w1 a k (hI.atB ha) hv (by omega) (M := M) hM)
 refine TO.l rfl (l_call ent45 (CallT.op hk19) rfl ?_)
 clear hk19
 rintro vr O' ⟨N, rfl, k9, rfl, rfl⟩
 refine TO.qm rfl (TO.q (q_extract (vs := _) rfl rfl) (TO.q (q_extract (vs := _) rfl rfl) (TO.l rfl (l_alloc inf25 rfl (fun z2 => ?_)))))
 refine TO.l rfl (l_sb (v := (dV M k9)) (vs := (dC M k9)) 0 inf25 rfl rfl rfl rfl rfl rfl (by simp [putL]) ?_)
 refine TO.qa rfl (TO.nl ?_)
 refine T.reset [oI z2 25 (dC M k9), dI 37 4 3 M k9, oI z1 25 (dC a k)] [(0, (dV a k)), (1, vI ((v : Nat) : Int)), (2, (.pointer (aD z1))), (4, .bool false), (5, vI 0), (6, vI 0), (7, (.pointer (aD z2)))] rfl (.of rfl) (fun ρ0 => ?_)
 refine T.s (T.s ?_)
 refine T.have (φ := nums k9.qs = M.next) (fun w9 hI => dI_nums hI (mG 1 rfl)) (fun hqs => ?_)
 have hvl9 : (vals k9.qs).length = M.next.length := by rw [← hqs]; simp
 refine T.rg (TO.qa rfl (TO.nl (T.block ?_)))
 refine T.loopS (fun (s : Nat) ρ O => O = [oI z2 25 (dC M k9), dI 37 4 3 M k9, oI z1 25 (dC a k)] ∧ s ≤ M.next.length ∧ (∀ s1, s1 < s → ∀ x, x < letN M → toN M s1 (c0 v x) = toN M s1 x) ∧ Heads [(0, (dV a k)), (1, vI ((v : Nat) : Int)), (2, (.pointer (aD z1))), (6, vI 0), (7, (.pointer (aD z2))), (9, vI ((s : Nat) : Int))] ρ) (fun s => M.next.length - s) 0 ?_ ?_
 ·exact ⟨rfl, Nat.zero_le _, fun s1 h => absurd h (by omega), (.of rfl)⟩
 rintro s ρ O ⟨rfl, hs, hall, hH⟩
 obtain ⟨ρ0, rfl⟩ := hH.elim
 clear hH
 refine T.s (T.s (T.rg (TO.qm rfl (TO.q (q_fa uT25 rfl inf22 rfl rfl) (TO.q (q_lb 0 uT22 rfl rfl rfl rfl) (TO.q (q_len uT22 rfl) (TO.q (q_lss rfl rfl) (TO.nl (T.condP rfl (fun hc => ?_) (fun hc => ?_))))))))))
 ·have hlt26 : s < M.next.length := by omega
  have hsl : s < M.next.length := by omega
  obtain ⟨q0, hq0, hz0⟩ := dk_row hqs hsl
  have hl1 : M.next[s].length = letN M := hMv.len _ (List.getElem_mem hsl)
  have hg9 : (vals k9.qs)[s]? = some (.slice q0.b M.next[s].length q0.c) := by rw [rvals_at hq0, hz0]
  refine T.skip (T.s (T.block (T.s (T.rg (TO.qa rfl (TO.nl (T.block ?_)))))))
  refine T.loopS (fun (x : Nat) ρ O => O = [oI z2 25 (dC M k9), dI 37 4 3 M k9, oI z1 25 (dC a k)] ∧ x ≤ M.next[s].length ∧ (∀ x1, x1 < x → toN M s (c0 v x1) = toN M s x1) ∧ Heads [(0, (dV a k)), (1, vI ((v : Nat) : Int)), (2, (.pointer (aD z1))), (6, vI 0), (7, (.pointer (aD z2))), (9, vI ((s : Nat) : Int)), (10, vI ((x : Nat) : Int))] ρ) (fun x => M.next[s].length - x) 0 ?_ ?_
  ·exact ⟨rfl, Nat.zero_le _, fun x1 h => absurd h (by omega), (.of rfl)⟩
  rintro x ρ O ⟨rfl, hx, hrow, hH⟩
  obtain ⟨ρ0, rfl⟩ := hH.elim
  clear hH
  refine T.s (T.s (T.rg (TO.qm rfl (TO.q (q_fa uT25 rfl inf22 rfl rfl) (TO.q (q_lb 0 uT22 rfl rfl rfl rfl) (TO.qm rfl (TO.q (q_ix (i := s) uT22 inf37 rfl rfl (dI_outer (mG 1 rfl)) hsl (hvl9 ▸ hsl)) (TO.q (q_ld uT37 rfl rfl (dI_outer (mG 1 rfl)) hg9) (TO.q (q_len uT37 rfl) (TO.q (q_lss rfl rfl) (TO.nl (T.condP rfl (fun hc => ?_) (fun hc => ?_)))))))))))))
  ·have hlt36 : x < M.next[s].length := by omega
   have hxl : x < letN M := by omega
   have hx64 : x < 64 := by omega
   obtain ⟨hto, _, hxk1, hx1⟩ := hMv.toN_lt hsl hxl
   have hx1 : (ints M.next[s])[x]? = some (vI ((toN M s x : Nat) : Int)) := by rw [ints_get hxk1, hx1]
   have hxc : c0 v x < letN M := c0_lt hxl
   obtain ⟨hto2, _, hxk2, hx2⟩ := hMv.toN_lt hsl hxc
   have hx2 : (ints M.next[s])[c0 v x]? = some (vI ((toN M s (c0 v x) : Nat) : Int)) := by rw [ints_get hxk2, hx2]
   refine T.skip (T.s (T.block (T.s ?_)))
   refine T.draws _ [(0, 0), (1, 0), (2, 0), (3, 0), (4, 0), (5, 0), (6, 0), (7, 0), (8, 0), (9, 0), (10, 0), (11, 0), (12, 0), (13, 0), (14, 0), (15, 0), (16, 1), (17, 0), (18, 0), (19, 0)] mixed (drawF_ok (by kernel_rfl)) (Sub.of (List.Sublist.refl _)) (fun _ _ _ h => h) ?_
   refine DO.q rfl (q_fa uT25 rfl inf22 rfl rfl) (DO.q rfl (q_lb 0 uT22 rfl rfl rfl rfl) (DO.q rfl (q_move rfl) (DO.q rfl (q_ix (i := s) uT22 inf37 rfl rfl (dI_outer (mG 1 rfl)) hsl (hvl9 ▸ hsl)) (DO.q rfl (q_ld uT37 rfl rfl (dI_outer (mG 1 rfl)) hg9) (DO.q rfl (q_move rfl) (DO.q rfl (q_ix (i := x) uT37 inf3 rfl rfl (dI_row (mG 1 rfl) hq0 hz0) hxk1 (by rw [List.length_map]; exact hxk1)) (DO.q rfl (q_ld uT3 rfl rfl (dI_row (mG 1 rfl) hq0 hz0) hx1) (DO.q rfl (q_fa uT25 rfl inf22 rfl rfl) (DO.q rfl (q_lb 0 uT22 rfl rfl rfl rfl) (DO.q rfl (q_move rfl) (DO.q rfl (q_ix (i := s) uT22 inf37 rfl rfl (dI_outer (mG 1 rfl)) hsl (hvl9 ▸ hsl)) (DO.q rfl (q_ld uT37 rfl rfl (dI_outer (mG 1 rfl)) hg9) (DO.q rfl (q_move rfl) (DO.q rfl (q_conv_id uT3 uT5 rfl (wrap8 (by omega))) (DO.q rfl (q_move rfl) ?_)))))))))))))))
   have hk55 := fun (w1 : World) (hI : Inv w [oI z2 25 (dC M k9), dI 37 4 3 M k9, oI z1 25 (dC a k)] w1) => (haveI := tbz hI; (show PureT _ _ _ _ _ from by
     have h9 := wthC w1 x v 0 hv5 hx64 (by decide)
     exact h9))
   refine DO.loud rfl rfl (l_call ent47 (CallT.op hk55) rfl ?_)
   clear hk55
   rintro vr O' ⟨N, rfl, rfl, rfl⟩
   refine ⟨by exact Sub.rf, ?_⟩
   refine DO.q rfl (q_ix (i := (c0 v x)) uT37 inf3 rfl rfl (dI_row (mG 1 rfl) hq0 hz0) hxk2 (by rw [List.length_map]; exact hxk2)) (DO.q rfl (q_ld uT3 rfl rfl (dI_row (mG 1 rfl) hq0 hz0) hx2) (DO.q rfl (q_neq rfl rfl) ?_))
   refine DO.done ?_
   refine T.condP rfl (fun hc => ?_) (fun hc => ?_)
   ·have hlt58 : toN M s x ≠ toN M s (c0 v x) := by omega
    refine T.s (T.rg (TO.qa rfl (TO.qa rfl (TO.nl (T.ret (Res.drop ?_))))))
    refine Res.two (.bool false) (vI 0) Tryz.results15 rfl rfl ?_
    rw [ign_no (m := M) (v := v) (by omega) (letN6 hMv.toVal) hsl hxl (.inl rfl) (by omega)]
    exact ⟨[], Sub.z, rfl, rfl⟩
   have hge58 : ¬ toN M s x ≠ toN M s (c0 v x) := by omega
   refine T.skip (T.rg (TO.qm rfl (TO.q (q_addN (a := x) (b := 1) rfl rfl (by omega)) (TO.qa rfl (TO.nl ?_)))))
   exact ⟨x + 1, by omega, [oI z2 25 (dC M k9), dI 37 4 3 M k9, oI z1 25 (dC a k)], (by exact Sub.rf), rfl, by omega, fun x1 h1 => (Nat.lt_succ_iff_lt_or_eq.1 h1).elim (fun h => hrow x1 h) (fun h => by rw [h]; omega), (.of rfl)⟩
  have hge36 : ¬ x < M.next[s].length := by omega
  refine T.exit ?_
  refine T.rg (TO.qm rfl (TO.q (q_addN (a := s) (b := 1) rfl rfl (by omega)) (TO.qa rfl (TO.nl ?_))))
  have hxe : x = letN M := by omega
  exact ⟨s + 1, by omega, [oI z2 25 (dC M k9), dI 37 4 3 M k9, oI z1 25 (dC a k)], (by exact Sub.rf), rfl, by omega, fun s1 h1 x1 hx1 => (Nat.lt_succ_iff_lt_or_eq.1 h1).elim (fun h => hall s1 h x1 hx1) (fun h => h ▸ hrow x1 (by omega)), (.of rfl)⟩
 have hge26 : ¬ s < M.next.length := by omega
 refine T.exit ?_
 refine T.s (T.rg (TO.qa rfl (TO.qa rfl (TO.nl (T.ret (Res.drop ?_))))))
 refine Res.two (.bool true) (vI 0) Tryz.results15 rfl rfl ?_
 rw [ign_yes (m := M) (v := v) (fun s1 h1 x1 hx1 => hall s1 (by omega) x1 hx1)]
 exact ⟨[], Sub.z, rfl, rfl⟩
theorem rigC (w : World) [Tab Tryz.prog w] (a : DFA) (k : DK) (ha : At w a k) (haa : a.next.length < 9223372036854775807) (haar : ∀ r ∈ a.next, r.length < 9223372036854775807) (haaf : a.final.length < 9223372036854775807) (v : Int) :
  PureT Tryz.prog 15 [dV a k, vI v] w fun r N => r = .tuple #[.bool (igV a v), vI (vE a v : Int)] ∧ N = [] := by
 by_cases he : vE a v = 0
 ·obtain ⟨hv, h0, h1⟩ := vE_zero.1 he
  obtain ⟨n, rfl⟩ : ∃ n : Nat, v = n := ⟨v.toNat, by omega⟩
  rw [igV_ok he, he]
  exact rigOk w a k ha hv n h1 rfl
 ·rw [igV_bad he]
  exact rigBad w a k ha haa haar haaf v he
end Go.Proofs.YtohkmggbfcnapaaGreatDoor


namespace Go.Lx
open Go.RowKit
def reR (a : DFA) (L : Nat) (im : Nat → Nat) (s : Nat) : List Int := (List.range (L)).map fun x => ((toN a s (im x) : Nat) : Int)
def reP (a : DFA) (L : Nat) (im : Nat → Nat) (s x : Nat) : List Int := (List.range (L)).map fun y => if y < x then ((toN a s (im y) : Nat) : Int) else 0
theorem reR_len (a : DFA) (L : Nat) (im : Nat → Nat) (s : Nat) : (reR a L im s).length = L := by simp [reR]
theorem reP_len (a : DFA) (L : Nat) (im : Nat → Nat) (s x : Nat) : (reP a L im s x).length = L := by simp [reP]
theorem reP_zero (a : DFA) (L : Nat) (im : Nat → Nat) (s : Nat) : List.replicate (L) (Value.int .i64 0) = ints (reP a L im s 0) := by
 apply List.ext_getElem (by simp [reP])
 intro i h1 h2
 simp [reP]
theorem reP_full (a : DFA) (L : Nat) (im : Nat → Nat) (s : Nat) : reP a L im s (L) = reR a L im s := by
 unfold reP reR
 refine List.map_congr_left fun y hy => ?_
 rw [if_pos (List.mem_range.1 hy)]
theorem reP_set {a : DFA} {L : Nat} {im : Nat → Nat} {s x : Nat} (hx : x < L) : (reP a L im s x).set x ((toN a s (im x) : Nat) : Int) = reP a L im s (x + 1) := by
 apply List.ext_getElem (by simp [reP])
 intro i h1 h2
 rw [List.getElem_set]
 simp only [reP, List.getElem_map, List.getElem_range]
 by_cases e : x = i
 ·subst e; simp
 ·by_cases h : i < x
  ·rw [if_neg e, if_pos h, if_pos (by omega)]
  ·rw [if_neg e, if_neg h, if_neg (by omega)]
theorem re_next (a : DFA) (m L : Nat) (im : Nat → Nat) (hL : 2 ^ m = L) : (reD a (m : Int) im).next = (List.range a.next.length).map (reR a L im) := by subst hL; rfl
end Go.Lx


namespace Go.Proofs.YtohkmggbfcnapaaGreatDoor
open Go.Lx Go.RowKit _root_.Go.Proofs.Tryz
end Go.Proofs.YtohkmggbfcnapaaGreatDoor


namespace Go.Lx
open Go.RowKit
end Go.Lx


namespace Go.Proofs.YtohkmggbfcnapaaGreatDoor
open Go.Lx Go.RowKit _root_.Go.Proofs.Tryz
end Go.Proofs.YtohkmggbfcnapaaGreatDoor


namespace Go.Proofs.YtohkmggbfcnapaaGreatDoor
open Go.Lx Go.RowKit _root_.Go.Proofs.Tryz
end Go.Proofs.YtohkmggbfcnapaaGreatDoor


namespace Go.Proofs.YtohkmggbfcnapaaGreatDoor
open Go.Lx Go.RowKit _root_.Go.Proofs.Tryz
theorem dropF (base : World) [Tab Tryz.prog base] (lb v x : Nat) (hv : v < 6) (hx : x < 32) :
  CallT Tryz.prog base 63 [.int .u8 ((x : Nat) : Int), .pointer (aD lb)] [oI lb 5 [(.int .u8 ((2 ^ v - 1 : Nat) : Int))]] (fun r O' => r = .int .u8 ((drp v x : Nat) : Int) ∧ O' = [oI lb 5 [(.int .u8 ((2 ^ v - 1 : Nat) : Int))]]) := by
 refine CallT.enter func63 rfl ntmps63 rfl ?_
 have hp : 2 ^ v ≤ 2 ^ 5 := Nat.pow_le_pow_right (by decide) (by omega)
 have h1 : x &&& (2 ^ v - 1) ≤ x := Nat.and_le_left
 have h2 : x &&& (255 - (2 ^ v - 1)) ≤ x := Nat.and_le_left
 have h3 : (x >>> 1) &&& (255 - (2 ^ v - 1)) ≤ x >>> 1 := Nat.and_le_left
 have h4 : x >>> 1 ≤ x := by rw [Nat.shiftRight_eq_div_pow]; omega
 refine T.s (T.rg (TO.qa rfl (TO.nl (T.s (T.rg (TO.qm rfl (TO.q (q_lb 0 uT5 rfl rfl rfl rfl) (TO.q (q_and (a := x) (b := 2 ^ v - 1) .u8 rfl rfl (by simp only [IntKind.bits]; omega) (by simp only [IntKind.bits]; omega)) (TO.qm rfl (TO.q (q_lb 0 uT5 rfl rfl rfl rfl) (TO.q (q_andNot8 (a := x) (b := 2 ^ v - 1) rfl rfl (by omega) (by omega)) (TO.q (q_shlU (a := x &&& (255 - (2 ^ v - 1))) (b := 1) .u8 rfl rfl (by decide) (by simp only [IntKind.bits]; omega)) (TO.q (QT.cast (q_or (a := x &&& (2 ^ v - 1)) (b := (x &&& (255 - (2 ^ v - 1))) * 2 ^ 1) .u8 rfl rfl (by simp only [IntKind.bits]; omega) (by simp only [IntKind.bits]; omega)) (v' := .int .u8 ((drp v x : Nat) : Int)) (by rw [drp_prog2 v hv x hx])) (TO.qa rfl (TO.nl (T.ret ?_))))))))))))))))
 refine Res.one (.int .u8 ((drp v x : Nat) : Int)) Tryz.results63 rfl ?_
 exact ⟨rfl, rfl⟩
theorem insF (base : World) [Tab Tryz.prog base] (lb v x : Nat) (hv : v < 6) (hx : x < 64) :
  CallT Tryz.prog base 64 [.int .u8 ((x : Nat) : Int), .pointer (aD lb)] [oI lb 5 [(.int .u8 ((2 ^ v - 1 : Nat) : Int))]] (fun r O' => r = .int .u8 ((cut v x : Nat) : Int) ∧ O' = [oI lb 5 [(.int .u8 ((2 ^ v - 1 : Nat) : Int))]]) := by
 refine CallT.enter func64 rfl ntmps64 rfl ?_
 have hp : 2 ^ v ≤ 2 ^ 5 := Nat.pow_le_pow_right (by decide) (by omega)
 have h1 : x &&& (2 ^ v - 1) ≤ x := Nat.and_le_left
 have h2 : x &&& (255 - (2 ^ v - 1)) ≤ x := Nat.and_le_left
 have h3 : (x >>> 1) &&& (255 - (2 ^ v - 1)) ≤ x >>> 1 := Nat.and_le_left
 have h4 : x >>> 1 ≤ x := by rw [Nat.shiftRight_eq_div_pow]; omega
 refine T.s (T.rg (TO.qa rfl (TO.nl (T.s (T.rg (TO.qm rfl (TO.q (q_lb 0 uT5 rfl rfl rfl rfl) (TO.q (q_and (a := x) (b := 2 ^ v - 1) .u8 rfl rfl (by simp only [IntKind.bits]; omega) (by simp only [IntKind.bits]; omega)) (TO.qm rfl (TO.q (q_shr (a := x) (b := 1) .u8 rfl rfl (by simp only [IntKind.bits]; omega) (by decide)) (TO.q (q_lb 0 uT5 rfl rfl rfl rfl) (TO.q (q_andNot8 (a := x >>> 1) (b := 2 ^ v - 1) rfl rfl (by omega) (by omega)) (TO.q (QT.cast (q_or (a := x &&& (2 ^ v - 1)) (b := (x >>> 1) &&& (255 - (2 ^ v - 1))) .u8 rfl rfl (by simp only [IntKind.bits]; omega) (by simp only [IntKind.bits]; omega)) (v' := .int .u8 ((cut v x : Nat) : Int)) (by rw [cut_prog v hv x hx])) (TO.qa rfl (TO.nl (T.ret ?_))))))))))))))))
 refine Res.one (.int .u8 ((cut v x : Nat) : Int)) Tryz.results64 rfl ?_
 exact ⟨rfl, rfl⟩
theorem renF (base : World) [Tab Tryz.prog base] (pb pc y : Nat) (pp : Option Addr) (l : List Nat) (hs : Sl base pp (intN l)) (hl : ∀ p ∈ l, p < 6) (h6 : l.length ≤ 6) (hy : y < 64) :
  CallT Tryz.prog base 67 [.int .u8 ((y : Nat) : Int), .pointer (aD pb)] [oI pb 37 [(.slice pp l.length pc)]] (fun r O' => r = .int .u8 ((imF l y l.length : Nat) : Int) ∧ O' = [oI pb 37 [(.slice pp l.length pc)]]) := by
 refine CallT.enter func67 rfl ntmps67 rfl ?_
 refine T.s (T.rg (TO.qa rfl (TO.nl (T.s (T.s (T.rg (TO.q (q_lb 0 uT37 rfl rfl rfl rfl) (TO.q (q_len uT37 rfl) (TO.qm rfl (TO.nl (T.block ?_)))))))))))
 refine T.loop (fun (i : Nat) ρ O => O = [oI pb 37 [(.slice pp l.length pc)]] ∧ i ≤ l.length ∧ Heads [(0, .int .u8 ((y : Nat) : Int)), (1, (.pointer (aD pb))), (3, .int .u8 ((imF l y i : Nat) : Int)), (6, (.slice pp l.length pc)), (7, vI (l.length : Int)), (8, vI ((i : Nat) : Int))] ρ) (fun i => l.length - i) 0 ?_ ?_
 ·exact ⟨rfl, Nat.zero_le _, (.of rfl)⟩
 rintro i ρ O ⟨rfl, hi, hH⟩
 obtain ⟨ρ0, rfl⟩ := hH.elim
 clear hH
 refine T.s (T.rg (TO.q (q_lss rfl rfl) (TO.nl (T.s (T.condP rfl (fun hc => ?_) (fun hc => ?_))))))
 ·have hlt9 : i < l.length := by omega
  have hil : i < l.length := by omega
  have hpl := hl _ (List.getElem_mem hil)
  have hgd : l.getD i 0 = l[i] := by rw [List.getD_eq_getElem?_getD, List.getElem?_eq_getElem hil]; rfl
  have hst := imF_step l y i
  have hb1 := imF_256 l y (show i ≤ 6 by omega)
  have hb2 := bit_256 y l[i] (show i < 6 by omega)
  have hb3 : y >>> l[i] ≤ y := by rw [Nat.shiftRight_eq_div_pow]; exact Nat.div_le_self _ _
  have hb4 : (y >>> l[i]) &&& 1 ≤ y >>> l[i] := Nat.and_le_left
  rw [hgd] at hst
  refine T.skip (T.s (T.block (T.s (T.rg (TO.qm rfl (TO.q (q_ix (i := i) uT37 inf3 rfl rfl (Sl.o hs) hil (by rw [List.length_map]; exact hil)) (TO.q (q_ld uT3 rfl rfl (Sl.o hs) (intN_get hil)) (TO.qa rfl (TO.qa rfl (TO.nl (T.rg (TO.qm rfl (TO.qm rfl (TO.qm rfl (TO.q (q_shr (a := y) (b := l[i]) .u8 rfl rfl (by simp only [IntKind.bits]; omega) (by simp only [IntKind.bits]; omega)) (TO.q (q_and (a := y >>> l[i]) (b := 1) .u8 rfl rfl (by simp only [IntKind.bits]; omega) (by decide)) (TO.qm rfl (TO.q (q_shlU (a := (y >>> l[i]) &&& 1) (b := i) .u8 rfl rfl (by simp only [IntKind.bits]; omega) (by simp only [IntKind.bits]; omega)) (TO.q (QT.cast (q_or (a := imF l y i) (b := ((y >>> l[i]) &&& 1) * 2 ^ i) .u8 rfl rfl (by simp only [IntKind.bits]; omega) (by simp only [IntKind.bits]; omega)) (v' := .int .u8 ((imF l y (i + 1) : Nat) : Int)) (by rw [hst])) (TO.qa rfl (TO.nl (T.rg ?_))))))))))))))))))))))
  refine TO.q (q_addN (a := i) (b := 1) rfl rfl (by omega)) (TO.qm rfl (TO.nl ?_))
  exact ⟨i + 1, by omega, rfl, by omega, (.of rfl)⟩
 have hge9 : ¬ i < l.length := by omega
 refine T.exit ?_
 refine T.s (T.rg (TO.qm rfl (TO.qa rfl (TO.nl (T.ret ?_)))))
 refine Res.one (.int .u8 ((imF l y i : Nat) : Int)) Tryz.results67 rfl ?_
 have hie : i = l.length := by omega
 subst hie
 exact ⟨rfl, rfl⟩
end Go.Proofs.YtohkmggbfcnapaaGreatDoor


namespace Go.Proofs.YtohkmggbfcnapaaGreatDoor
open Go.Lx Go.RowKit _root_.Go.Proofs.Tryz
theorem cloneNilB (w : World) [Tab Tryz.prog w] (c : Nat) :
  PureT Tryz.prog 89 [.slice none 0 c] w fun v N => ∃ b' c', v = .slice b' 0 c' ∧ N = [rowI b' c' 4 1 []] := by
 refine CallT.enter func89 rfl ntmps89 rfl ?_
 refine T.s (T.rg (TO.qa rfl (TO.nl (T.s (T.s (T.rg (TO.qm rfl (TO.q (q_eqlNil uT23 rfl rfl) (TO.nl ?_)))))))))
 refine T.cond1 rfl ?_
 refine T.s (T.nilRow 4 1 ?_)
 refine T.rg (TO.qa rfl (TO.nl (T.ret ?_)))
 refine Res.one nS Tryz.results89 rfl ?_
 exact ⟨_, _, rfl, rfl⟩
theorem cloneSomeB (w : World) [Tab Tryz.prog w] (a : Addr) (c : Nat) (xs : List Bool) (h1 : Sl w (some a) (bools xs)) (hb : xs.length * 1 ≤ 70368744177664) :
  PureT Tryz.prog 89 [.slice (some a) xs.length c] w fun v N => ∃ b' c', v = .slice b' xs.length c' ∧ N = [rowI b' c' 4 1 (bools xs)] := by
 refine CallT.enter func89 rfl ntmps89 rfl ?_
 refine T.s (T.rg (TO.qa rfl (TO.nl (T.s (T.s (T.rg (TO.qm rfl (TO.q (q_eqlNil uT23 rfl rfl) (TO.nl (T.cond0 rfl (T.skip (T.s (T.rg (TO.l rfl (l_buildSlice (m := 0) (parts := []) (cs := []) uT23 inf4 (by decide) (by simp [Instr.fill]) rfl (fun b1 => ?_))))))))))))))))
 refine TO.qm rfl (TO.l rfl (l_append 0 uT23 uT23 inf4 rfl rfl rfl rfl (by simp) (by decide) (Src.sl h1 (by simp)) (bools_one xs) (by omega) (by decide) (by decide) (fun b1 c2 => ?_)))
 refine TO.qa rfl (TO.nl (T.ret ?_))
 refine Res.one (.slice b1 (0 + xs.length) c2) Tryz.results89 rfl ?_
 exact ⟨_, _, by rw [Nat.zero_add], rfl⟩
theorem cloneB (w : World) [Tab Tryz.prog w] (b : Option Addr) (c : Nat) (xs : List Bool) (h1 : Sl w b (bools xs)) (hb : xs.length * 1 ≤ 70368744177664) :
  PureT Tryz.prog 89 [.slice b xs.length c] w fun v N => ∃ b' c', v = .slice b' xs.length c' ∧ N = [rowI b' c' 4 1 (bools xs)] := by
 cases b with
 | none =>
  have hx : xs = [] := by
   cases xs with
   | nil => rfl
   | cons x xs => obtain ⟨_, _, e⟩ := h1.addr (i := 0) (by simp); cases e
  subst hx
  exact cloneNilB w c
 | some a => exact cloneSomeB w a c xs h1 hb
theorem rebF (base : World) [Tab Tryz.prog base] (a : DFA) (k : DK) (ha : At base a k) (hv : Valid a) (m : Nat) (h6 : m ≤ 6) (L : Nat) (hL : 2 ^ m = L) (im : Nat → Nat) (him : ∀ x, x < L → im x < letN a) (gv : Value) (IT : List Lx.Item) (hg : ∀ x, x < L → CallV Tryz.prog base gv [.int .u8 ((x : Nat) : Int)] IT (fun r O' => r = .int .u8 ((im x : Nat) : Int) ∧ O' = IT)) {M : DFA} (hM : minD (reD a (m : Int) im) = M) :
  CallT Tryz.prog base 62 [dV a k, vI ((m : Nat) : Int), gv] IT (fun r O' => ∃ k' : DK, r = .tuple #[dV M k', vI 0] ∧ O' = [dI 37 4 3 M k']) := by
 refine CallT.enter func62 rfl ntmps62 rfl ?_
 have he := checkD_zero.2 hv
 have h4 := hv.n4
 have hww : letN a ≤ 64 := hv.width
 have hfin := hv.fin
 have hvl := ha.rows.1
 have hsl := start_lt hv.toVal
 have hs0 := hv.s0
 have hs1 := hv.s1
 have hm64 : L ≤ 2 ^ 6 := by rw [← hL]; exact Nat.pow_le_pow_right (by decide) h6
 refine T.s (T.rg (TO.l rfl (l_box (v := (dV a k)) (cs := (dC a k)) rfl rfl (fun z1 => ?_))))
 refine TO.l rfl (l_alloc inf25 rfl (fun z2 => ?_))
 refine TO.qa rfl (TO.nl ?_)
 refine T.cut (fun ρ O => ∃ (tb cc : Nat) (cb : Option Addr), O = ([oI tb 25 [(vI ((m : Nat) : Int)), (vI a.start), nS, (.slice cb a.final.length cc)], rowI cb cc 4 1 (bools a.final), oI z2 25 [(vI 0), (vI 0), nS, nS], oI z1 25 (dC a k)] ++ IT) ∧ Heads [(0, (dV a k)), (1, (vI ((m : Nat) : Int))), (2, gv), (3, (.pointer (aD z1))), (6, (.pointer (aD z2))), (7, vI 0), (8, (.pointer (aD tb)))] ρ) ?_ ?_
 ·refine T.tree [oI z2 25 [(vI 0), (vI 0), nS, nS], oI z1 25 (dC a k)] 9 mixed rfl (by exact Sub.k (.k .z)) (fun _ _ _ h => h) ?_
  refine RO.quietT 0 rfl (by kernel_rfl) (q_move rfl) ?_
  refine RO.quietT 1 rfl (by kernel_rfl) (q_fa uT25 rfl inf3 rfl rfl) ?_
  refine RO.quietT 2 rfl (by kernel_rfl) (q_lb 1 uT3 rfl rfl rfl rfl) ?_
  refine RO.quietT 3 rfl (by kernel_rfl) (q_fa uT25 rfl inf23 rfl rfl) ?_
  refine RO.quietT 4 rfl (by kernel_rfl) (q_lb 1 uT23 rfl rfl rfl rfl) ?_
  have hk18 := fun (w1 : World) (hI : Inv base ([oI z2 25 [(vI 0), (vI 0), nS, nS], oI z1 25 (dC a k)] ++ IT) w1) => (haveI := tbz hI; cloneB w1 k.fb k.fc a.final (hI.sl ha.final) (by omega))
  refine RO.fork [5, 7] (by kernel_rfl) rfl ⟨⟨_, rfl, rfl, l_call ent89 (CallT.op hk18) rfl ?_⟩, ⟨_, rfl, rfl, l_alloc inf25 rfl (fun tb => ⟨by exact Sub.d (.k (.k .z)), ?_⟩)⟩, trivial⟩
  ·clear hk18
   rintro vr O' ⟨N, rfl, cb, cc, rfl, rfl⟩
   refine ⟨by exact Sub.d (.k (.k .z)), ?_⟩
   refine RO.quietT 6 rfl (by kernel_rfl) (q_build (cs := [(vI ((m : Nat) : Int)), (vI a.start), nS, (.slice cb a.final.length cc)]) plan25 inf25 (by kernel_rfl)) ?_
   refine RO.fork [7] (by kernel_rfl) rfl ⟨⟨_, rfl, rfl, l_alloc inf25 rfl (fun tb => ⟨by exact Sub.d (.d (.k (.k .z))), ?_⟩)⟩, trivial⟩
   refine RO.fork [8] (by kernel_rfl) rfl ⟨⟨_, rfl, rfl, l_sb (v := (.agg #[(vI ((m : Nat) : Int)), (vI a.start), nS, (.slice cb a.final.length cc)])) (vs := [(vI ((m : Nat) : Int)), (vI a.start), nS, (.slice cb a.final.length cc)]) 0 inf25 rfl rfl rfl rfl rfl rfl (by simp [putL]) ⟨by exact Sub.d (.d (.k (.k .z))), ?_⟩⟩, trivial⟩
   exact RO.fin (by kernel_rfl) ⟨tb, cc, cb, rfl, (.of rfl)⟩ (by exact Sub.rf)
  have hk18 := fun (w1 : World) (hI : Inv base ([oI tb 25 [(vI 0), (vI 0), nS, nS], oI z2 25 [(vI 0), (vI 0), nS, nS], oI z1 25 (dC a k)] ++ IT) w1) => (haveI := tbz hI; cloneB w1 k.fb k.fc a.final (hI.sl ha.final) (by omega))
  refine RO.fork [5] (by kernel_rfl) rfl ⟨⟨_, rfl, rfl, l_call ent89 (CallT.op hk18) rfl ?_⟩, trivial⟩
  clear hk18
  rintro vr O' ⟨N, rfl, cb, cc, rfl, rfl⟩
  refine ⟨by exact Sub.d (.d (.k (.k .z))), ?_⟩
  refine RO.quietT 6 rfl (by kernel_rfl) (q_build (cs := [(vI ((m : Nat) : Int)), (vI a.start), nS, (.slice cb a.final.length cc)]) plan25 inf25 (by kernel_rfl)) ?_
  refine RO.fork [8] (by kernel_rfl) rfl ⟨⟨_, rfl, rfl, l_sb (v := (.agg #[(vI ((m : Nat) : Int)), (vI a.start), nS, (.slice cb a.final.length cc)])) (vs := [(vI ((m : Nat) : Int)), (vI a.start), nS, (.slice cb a.final.length cc)]) 1 inf25 rfl rfl rfl rfl rfl rfl (by simp [putL]) ⟨by exact Sub.d (.d (.k (.k .z))), ?_⟩⟩, trivial⟩
  exact RO.fin (by kernel_rfl) ⟨tb, cc, cb, rfl, (.of rfl)⟩ (by exact Sub.pull [rowI cb cc 4 1 (bools a.final)] _ (.k (.k (.k .rf))))
 rintro ρ O ⟨tb, cc, cb, rfl, hH⟩
 obtain ⟨ρ0, rfl⟩ := hH.elim
 clear hH
 refine T.s (T.s (T.rg (TO.q (q_fa uT25 rfl inf22 rfl rfl) (TO.q (q_lb 3 uT22 rfl rfl rfl rfl) (TO.q (q_len uT22 rfl) (TO.qm rfl (TO.nl (T.block (T.nilRow 37 1 ?_)))))))))
 refine T.sub (O' := ([oI tb 25 [(vI ((m : Nat) : Int)), (vI a.start), nS, (.slice cb a.final.length cc)], rowI none 0 37 1 (vals []), rowI cb cc 4 1 (bools a.final), oI z1 25 (dC a k), oI z2 25 [(vI 0), (vI 0), nS, nS]] ++ (IT ++ itms 3 []))) (Sub.ca []) ?_
 refine T.loop (fun (s : Nat) ρ O => ∃ (nb : Option Addr) (nc : Nat) (qs : List Rec), O = ([oI tb 25 [(vI ((m : Nat) : Int)), (vI a.start), (.slice nb s nc), (.slice cb a.final.length cc)], rowI nb nc 37 1 (vals qs), rowI cb cc 4 1 (bools a.final), oI z1 25 (dC a k), oI z2 25 [(vI 0), (vI 0), nS, nS]] ++ (IT ++ itms 3 qs)) ∧ s ≤ a.next.length ∧ qs.length = s ∧ nums qs = (List.range s).map (reR a L im) ∧ Heads [(0, (dV a k)), (1, (vI ((m : Nat) : Int))), (2, gv), (3, (.pointer (aD z1))), (6, (.pointer (aD z2))), (7, vI 0), (8, (.pointer (aD tb))), (21, (.slice k.nb a.next.length k.nc)), (22, vI (a.next.length : Int)), (23, vI ((s : Nat) : Int))] ρ) (fun s => a.next.length - s) 0 ?_ ?_
 ·exact ⟨none, 0, [], rfl, Nat.zero_le _, rfl, rfl, (.of rfl)⟩
 rintro s ρ O ⟨nb, nc, qs, rfl, hs, hql, hqs, hH⟩
 obtain ⟨ρ0, rfl⟩ := hH.elim
 clear hH
 refine T.s (T.rg (TO.q (q_lss rfl rfl) (TO.nl (T.s (T.condP rfl (fun hc => ?_) (fun hc => ?_))))))
 ·have hlt24 : s < a.next.length := by omega
  have hsl9 : s < a.next.length := by omega
  obtain ⟨v1, c1, g1, s1⟩ := ha.rows.get hsl9
  have hl1 : a.next[s].length = letN a := hv.len _ (List.getElem_mem hsl9)
  refine T.skip (T.s (T.block (T.s (T.rg (TO.q (q_ix (i := s) uT22 inf37 rfl rfl (Sl.o ha.outer) hsl9 (hvl ▸ hsl9)) (TO.q (q_ld uT37 rfl rfl (Sl.o ha.outer) g1) (TO.qa rfl (TO.nl (T.s (T.rg (TO.qm rfl (TO.q (QT.cast (q_shl1 (v := m) rfl rfl (by omega)) (v' := vI ((L : Nat) : Int)) (by rw [hL])) (TO.l rfl (l_makeSlice (m := L) uT37 inf3 rfl rfl (by omega) (by omega) (fun z3 => ?_)))))))))))))))
  refine TO.qa rfl (TO.nl (T.s (T.s (T.rg (TO.qm rfl (TO.q (q_len uT37 rfl) (TO.qm rfl (TO.nl (T.block ?_)))))))))
  refine T.loop (fun (x : Nat) ρ O => O = ([rowI (aD z3) L 3 1 (ints (reP a L im s x)), oI tb 25 [(vI ((m : Nat) : Int)), (vI a.start), (.slice nb s nc), (.slice cb a.final.length cc)], rowI nb nc 37 1 (vals qs), rowI cb cc 4 1 (bools a.final), oI z1 25 (dC a k), oI z2 25 [(vI 0), (vI 0), nS, nS]] ++ (IT ++ itms 3 qs)) ∧ x ≤ L ∧ Heads [(0, (dV a k)), (1, (vI ((m : Nat) : Int))), (2, gv), (3, (.pointer (aD z1))), (6, (.pointer (aD z2))), (7, vI 0), (8, (.pointer (aD tb))), (10, (.slice v1 a.next[s].length c1)), (11, (.slice (aD z3) L L)), (21, (.slice k.nb a.next.length k.nc)), (22, vI (a.next.length : Int)), (23, vI ((s : Nat) : Int)), (31, vI (L : Int)), (32, vI ((x : Nat) : Int))] ρ) (fun x => L - x) 0 ?_ ?_
  ·exact ⟨by rw [reP_zero]; rfl, Nat.zero_le _, (.of rfl)⟩
  rintro x ρ O ⟨rfl, hx, hH⟩
  obtain ⟨ρ0, rfl⟩ := hH.elim
  clear hH
  refine T.s (T.rg (TO.q (q_lss rfl rfl) (TO.nl (T.s (T.condP rfl (fun hc => ?_) (fun hc => ?_))))))
  ·have hlt33 : x < L := by omega
   have hxl : x < L := by omega
   have hil : im x < letN a := him x hxl
   obtain ⟨hto, _, hxk1, hx1⟩ := hv.toN_lt hsl9 hil
   have hx1 : (ints a.next[s])[im x]? = some (vI ((toN a s (im x) : Nat) : Int)) := by rw [ints_get hxk1, hx1]
   refine T.skip (T.s (T.block (T.s (T.rg (TO.qm rfl (TO.qa rfl (TO.nl (T.rg (TO.qm rfl (TO.qm rfl (TO.qm rfl (TO.qm rfl (TO.qm rfl (TO.q (q_conv_id uT3 uT5 rfl (wrap8 (by omega))) ?_))))))))))))))
   have hk41 := CallV.under (B := [rowI (aD z3) L 3 1 (ints (reP a L im s x)), oI tb 25 [(vI ((m : Nat) : Int)), (vI a.start), (.slice nb s nc), (.slice cb a.final.length cc)], rowI nb nc 37 1 (vals qs), rowI cb cc 4 1 (bools a.final), oI z1 25 (dC a k), oI z2 25 [(vI 0), (vI 0), nS, nS]] ++ itms 3 qs) (O := ([rowI (aD z3) L 3 1 (ints (reP a L im s x)), oI tb 25 [(vI ((m : Nat) : Int)), (vI a.start), (.slice nb s nc), (.slice cb a.final.length cc)], rowI nb nc 37 1 (vals qs), rowI cb cc 4 1 (bools a.final), oI z1 25 (dC a k), oI z2 25 [(vI 0), (vI 0), nS, nS]] ++ (IT ++ itms 3 qs))) (hg x hxl) (Sub.ca [])
   refine TO.l rfl (l_callG hk41 rfl rfl ?_)
   clear hk41
   rintro vr O' ⟨A1, rfl, rfl, hA1⟩
   have hA2 := hA1.symm
   subst hA2
   refine TO.sub (O' := ([rowI (aD z3) L 3 1 (ints (reP a L im s x)), oI tb 25 [(vI ((m : Nat) : Int)), (vI a.start), (.slice nb s nc), (.slice cb a.final.length cc)], rowI nb nc 37 1 (vals qs), rowI cb cc 4 1 (bools a.final), oI z1 25 (dC a k), oI z2 25 [(vI 0), (vI 0), nS, nS]] ++ (IT ++ itms 3 qs))) (Sub.ca []) ?_
   refine TO.q (q_ix (i := (im x)) uT37 inf3 rfl rfl (Sl.o s1) hxk1 (by rw [List.length_map]; exact hxk1)) (TO.q (q_ld uT3 rfl rfl (Sl.o s1) hx1) (TO.q (q_ix (i := x) uT37 inf3 rfl rfl (rowO (mG 0 rfl)) hxl (by rw [List.length_map, reP_len]; exact hxl)) (TO.l rfl (l_st (j := x) (v := vI ((toN a s (im x) : Nat) : Int)) (vs := [(vI ((toN a s (im x) : Nat) : Int))]) (cs := ints (reP a L im s x)) 0 inf3 rfl rfl rfl rfl rfl (by simp) rfl (by rw [List.length_map, reP_len]; simp; omega) ?_))))
   refine TO.sub (O' := ([rowI (aD z3) L 3 1 (ints (reP a L im s (x + 1))), oI tb 25 [(vI ((m : Nat) : Int)), (vI a.start), (.slice nb s nc), (.slice cb a.final.length cc)], rowI nb nc 37 1 (vals qs), rowI cb cc 4 1 (bools a.final), oI z1 25 (dC a k), oI z2 25 [(vI 0), (vI 0), nS, nS]] ++ (IT ++ itms 3 qs))) (by rw [show putL (ints (reP a L im s x)) x [(vI ((toN a s (im x) : Nat) : Int))] = ints (reP a L im s (x + 1)) from by rw [← reP_set hxl]; simp [putL]]; exact Sub.of (List.Sublist.refl _)) ?_
   refine TO.nl (T.rg (TO.q (q_addN (a := x) (b := 1) rfl rfl (by omega)) (TO.qm rfl (TO.nl ?_))))
   exact ⟨x + 1, by omega, rfl, by omega, (.of rfl)⟩
  have hge33 : ¬ x < L := by omega
  refine T.exit ?_
  refine T.rg (TO.q (q_fa uT25 rfl inf22 rfl rfl) (TO.q (q_lb 1 uT22 rfl rfl rfl rfl) (TO.qm rfl (TO.l rfl (l_build1 (v := (.slice (aD z3) L L)) uT22 inf37 rfl rfl rfl (fun z4 => ?_))))))
  refine TO.l rfl (l_append 3 uT22 uT22 inf37 rfl rfl rfl rfl (by rw [List.length_map]; omega) (by decide) (Src.row (j := 0) rfl (by simp)) (by simp [oneB]) (by omega) (by decide) (by decide) (fun z5 zc6 => ?_))
  refine TO.q (q_fa uT25 rfl inf22 rfl rfl) (TO.l rfl (l_sb (v := (.slice z5 (s + 1) zc6)) (vs := [(.slice z5 (s + 1) zc6)]) 2 inf22 rfl rfl rfl rfl rfl rfl (by simp [putL]) ?_))
  refine TO.sub (O' := ([oI tb 25 [(vI ((m : Nat) : Int)), (vI a.start), (.slice z5 (s + 1) zc6), (.slice cb a.final.length cc)], rowI z5 zc6 37 1 ((vals qs) ++ [(.slice (aD z3) L L)]), rowI cb cc 4 1 (bools a.final), oI z1 25 (dC a k), oI z2 25 [(vI 0), (vI 0), nS, nS], rowI (aD z3) L 3 1 (ints (reP a L im s x))] ++ (IT ++ itms 3 qs))) (by exact Sub.d (.pull [rowI (aD z3) L 3 1 (ints (reP a L im s x))] _ (.pull [rowI (aD z3) L 3 1 (ints (reP a L im s x))] _ (.pull [rowI (aD z3) L 3 1 (ints (reP a L im s x))] _ (.pull [rowI (aD z3) L 3 1 (ints (reP a L im s x))] _ (.pull [rowI (aD z3) L 3 1 (ints (reP a L im s x))] _ (.k .rf))))))) ?_
  refine TO.nl ?_
  have hxe : L = x := by omega
  subst hxe
  have hvq : vals (qs ++ [⟨some ⟨z3, 0, none⟩, L, reR a L im s⟩]) = vals qs ++ [.slice (aD z3) L L] := by simp [Rec.val, reR_len]
  refine T.sub (O' := (([oI tb 25 [(vI ((m : Nat) : Int)), (vI a.start), (.slice z5 (s + 1) zc6), (.slice cb a.final.length cc)], rowI z5 zc6 37 1 ((vals qs) ++ [(.slice (aD z3) L L)]), rowI cb cc 4 1 (bools a.final), oI z1 25 (dC a k), oI z2 25 [(vI 0), (vI 0), nS, nS]] ++ [rowI (aD z3) L 3 1 (ints (reR a L im s))]) ++ (IT ++ itms 3 qs))) (by rw [← reP_full]; exact Sub.rf) ?_
  refine T.sub (O' := ([oI tb 25 [(vI ((m : Nat) : Int)), (vI a.start), (.slice z5 (s + 1) zc6), (.slice cb a.final.length cc)], rowI z5 zc6 37 1 (vals (qs ++ [⟨some ⟨z3, 0, none⟩, L, reR a L im s⟩])), rowI cb cc 4 1 (bools a.final), oI z1 25 (dC a k), oI z2 25 [(vI 0), (vI 0), nS, nS]] ++ (IT ++ itms 3 (qs ++ [⟨some ⟨z3, 0, none⟩, L, reR a L im s⟩])))) (by rw [hvq]; exact Sub.foldN [oI tb 25 [(vI ((m : Nat) : Int)), (vI a.start), (.slice z5 (s + 1) zc6), (.slice cb a.final.length cc)], rowI z5 zc6 37 1 ((vals qs) ++ [(.slice (aD z3) L L)]), rowI cb cc 4 1 (bools a.final), oI z1 25 (dC a k), oI z2 25 [(vI 0), (vI 0), nS, nS]] (rowI (aD z3) L 3 1 (ints (reR a L im s))) (IT ++ itms 3 qs) (IT ++ itms 3 (qs ++ [⟨some ⟨z3, 0, none⟩, L, reR a L im s⟩])) (by rw [itms_snoc, List.append_assoc]; rfl)) ?_
  refine T.rg (TO.q (q_addN (a := s) (b := 1) rfl rfl (by omega)) (TO.qm rfl (TO.nl ?_)))
  exact ⟨s + 1, by omega, z5, zc6, qs ++ [⟨some ⟨z3, 0, none⟩, L, reR a L im s⟩], rfl, by omega, by simp [hql], by rw [List.range_succ, List.map_append, ← hqs]; simp, (.of rfl)⟩
 have hge24 : ¬ s < a.next.length := by omega
 refine T.exit ?_
 refine T.s ?_
 have hse : s = a.next.length := by omega
 obtain ⟨Tz, hT⟩ : ∃ T, T = reD a (m : Int) im := ⟨_, rfl⟩
 have e1 : nums qs = Tz.next := by rw [hT, hqs, hse, re_next a m L im hL]
 have e2 : a.final = Tz.final := by rw [hT]; rfl
 have e5 : Tz.next.length = s := by rw [hT, re_len, hse]
 have e6 : Tz.final.length = a.final.length := by rw [← e2]
 have hTv : Valid Tz := by rw [hT]; exact (HasL.re (HasL.of hv (Nat.le_refl _)) (by omega) (by omega) (fun x hx => him x (by rw [← hL]; exact hx))).valid
 obtain ⟨z9, hz9⟩ : ∃ z : DK, z = ⟨nb, nc, cb, cc, qs⟩ := ⟨_, rfl⟩
 refine T.sub (O' := (([rowI nb nc 37 1 (vals qs), rowI cb cc 4 1 (bools Tz.final)] ++ itms 3 qs) ++ [oI tb 25 [(vI ((m : Nat) : Int)), (vI a.start), (.slice nb Tz.next.length nc), (.slice cb Tz.final.length cc)], oI z1 25 (dC a k), oI z2 25 [(vI 0), (vI 0), nS, nS]])) (by rw [e5, e6, ← e2]; exact Sub.cnt IT (by intro a; simp only [itms, oI, List.set_cons_zero, List.set_cons_succ, putL, List.cons_append, List.nil_append, List.append_nil, List.append_assoc, List.map_append, List.map_cons, List.map_nil, cnt_append, cnt_cons, cnt_nil, vI, nS, aD] <;> omega)) ?_
 refine T.pack (φ := nums qs = Tz.next) e1 ?_
 refine T.sub (O' := [dI 37 4 3 Tz z9, oI tb 25 (dC Tz z9), oI z1 25 (dC a k), oI z2 25 [(vI 0), (vI 0), nS, nS]]) (by subst hz9; unfold dC dfaCells; rw [hT]; exact Sub.rf) ?_
 refine T.rg (TO.q (q_la 1 uT25 rfl inf25 rfl rfl rfl) ?_)
 have hk54 := fun (w1 : World) (hI : Inv base [dI 37 4 3 Tz z9, oI tb 25 (dC Tz z9), oI z1 25 (dC a k), oI z2 25 [(vI 0), (vI 0), nS, nS]] w1) => (haveI := tbz hI; minKE w1 Tz z9 (hI.at (k := z9) (mG 0 rfl)) hTv (by omega) (M := M) (by rw [hT]; exact hM))
 refine TO.l rfl (l_call ent34 (CallT.op hk54) rfl ?_)
 clear hk54
 rintro vr O' ⟨N, rfl, k9, rfl, rfl⟩
 refine TO.q (q_extract (vs := _) rfl rfl) (TO.q (q_extract (vs := _) rfl rfl) (TO.l rfl (l_sb (v := (dV M k9)) (vs := (dC M k9)) 4 inf25 rfl rfl rfl rfl rfl rfl (by simp [putL]) ?_)))
 refine TO.qa rfl (TO.nl (T.ret (Res.drop ?_)))
 refine Res.cell1b (vI 0) (i := 4) Tryz.results62 uT25 rfl inf25 rfl rfl rfl rfl ?_
 exact ⟨[dI 37 4 3 M k9], (by exact Sub.k .z), k9, rfl, rfl⟩
end Go.Proofs.YtohkmggbfcnapaaGreatDoor


namespace Go.Proofs.YtohkmggbfcnapaaGreatDoor
open Go.Lx Go.RowKit _root_.Go.Proofs.Tryz
theorem insBad (w : World) [Tab Tryz.prog w] (a : DFA) (k : DK) (ha : At w a k) (haa : a.next.length < 9223372036854775807) (haar : ∀ r ∈ a.next, r.length < 9223372036854775807) (haaf : a.final.length < 9223372036854775807) (he : checkD a ≠ 0) (v : Int) :
  PureT Tryz.prog 27 [dV a k, vI v] w fun v9 N => v9 = .tuple #[dV noD ⟨none, 0, none, 0, []⟩, vI (checkD a : Int)] ∧ N = [] := by
 refine CallT.enter func27 rfl ntmps27 rfl ?_
 refine T.s (T.rg (TO.l rfl (l_box (v := (dV a k)) (cs := (dC a k)) rfl rfl (fun bx1 => ?_))))
 refine TO.l rfl (l_alloc inf25 rfl (fun bx2 => ?_))
 refine TO.qa rfl (TO.nl (T.s (T.s (T.rg (TO.q (q_la 1 uT25 rfl inf25 rfl rfl rfl) ?_)))))
 have hk9 := fun (w1 : World) (hI : Inv w [oI bx2 25 [(vI 0), (vI 0), nS, nS], oI bx1 25 (dC a k)] w1) => (haveI := tbz hI; subsetCheck w1 a k.nb k.fb k.nc k.fc (vals k.qs) (hI.dfa ha) haa haar haaf)
 refine TO.l rfl (l_call ent35 (CallT.op hk9) rfl ?_)
 clear hk9
 rintro vr O' ⟨N, rfl, rfl, rfl⟩
 refine TO.qa rfl (TO.nl (T.s (T.rg (TO.qm rfl (TO.q (QT.toB (q_neq rfl rfl) (decide_eq_true (by omega))) (TO.nl ?_))))))
 refine T.cond1 rfl ?_
 refine T.s (T.rg (TO.q (q_build plan25 inf25 rfl) (TO.qm rfl (TO.l rfl (l_sb (v := (.agg #[(vI 0), (vI 0), nS, nS])) (vs := [(vI 0), (vI 0), nS, nS]) 0 inf25 rfl rfl rfl rfl rfl rfl (by simp [putL]) ?_)))))
 refine TO.qa rfl (TO.nl (T.ret (Res.drop ?_)))
 refine Res.cell1b (vI (checkD a : Int)) (i := 0) Tryz.results27 uT25 rfl inf25 rfl rfl rfl rfl ?_
 exact ⟨[], Sub.z, rfl, rfl⟩
theorem insVars (w : World) [Tab Tryz.prog w] (a : DFA) (k : DK) (ha : At w a k) (hv : Valid a) (v : Int) (hb : v < 0 ∨ a.vars < v ∨ a.vars = 6) :
  PureT Tryz.prog 27 [dV a k, vI v] w fun v9 N => v9 = .tuple #[dV noD ⟨none, 0, none, 0, []⟩, vI 7] ∧ N = [] := by
 refine CallT.enter func27 rfl ntmps27 rfl ?_
 have he := checkD_zero.2 hv
 have h4 := hv.n4
 have hww : letN a ≤ 64 := hv.width
 have hfin := hv.fin
 have hvl := ha.rows.1
 have hsl := start_lt hv.toVal
 have hs0 := hv.s0
 have hs1 := hv.s1
 refine T.s (T.rg (TO.l rfl (l_box (v := (dV a k)) (cs := (dC a k)) rfl rfl (fun bx1 => ?_))))
 refine TO.l rfl (l_alloc inf25 rfl (fun bx2 => ?_))
 refine TO.qa rfl (TO.nl (T.s (T.s (T.rg (TO.q (q_la 1 uT25 rfl inf25 rfl rfl rfl) ?_)))))
 have hk9 := fun (w1 : World) (hI : Inv w [oI bx2 25 [(vI 0), (vI 0), nS, nS], oI bx1 25 (dC a k)] w1) => (haveI := tbz hI; (show PureT _ _ _ _ _ from by
   have h9 := subsetCheck w1 a k.nb k.fb k.nc k.fc (vals k.qs) (hI.dfa ha) (by omega) hv.bound (by omega)
   rw [he] at h9
   exact h9))
 refine TO.l rfl (l_call ent35 (CallT.op hk9) rfl ?_)
 clear hk9
 rintro vr O' ⟨N, rfl, rfl, rfl⟩
 refine TO.qa rfl (TO.nl (T.s (T.rg (TO.qm rfl (TO.q (q_neq rfl rfl) (TO.nl (T.cond0 rfl (T.skip (T.s (T.s (T.rg (TO.qm rfl (TO.q (q_lss rfl rfl) ?_)))))))))))))
 by_cases hs16 : v < 0
 ·refine TO.q (QT.toB (q_move rfl) (decide_eq_true hs16)) ?_
  refine TO.pd rfl rfl (TO.pd rfl rfl (TO.pd rfl rfl (TO.pd rfl rfl (TO.q (q_pick1 rfl rfl) (TO.qm rfl (TO.pd rfl rfl (TO.pd rfl rfl (TO.pd rfl rfl ?_))))))))
  refine TO.q (q_pick1 rfl rfl) (TO.nl ?_)
  refine T.cond1 rfl ?_
  refine T.s (T.rg (TO.q (q_build plan25 inf25 rfl) (TO.l rfl (l_sb (v := (.agg #[(vI 0), (vI 0), nS, nS])) (vs := [(vI 0), (vI 0), nS, nS]) 0 inf25 rfl rfl rfl rfl rfl rfl (by simp [putL]) ?_))))
  refine TO.qa rfl (TO.nl (T.ret (Res.drop ?_)))
  refine Res.cell1b (vI 7) (i := 0) Tryz.results27 uT25 rfl inf25 rfl rfl rfl rfl ?_
  exact ⟨[], Sub.z, rfl, rfl⟩
 refine TO.q (QT.toB (q_move rfl) (decide_eq_false hs16)) (TO.gq rfl rfl (q_move rfl) (TO.gq rfl rfl (q_fa uT25 rfl inf3 rfl rfl) (TO.gq rfl rfl (q_lb 1 uT3 rfl rfl rfl rfl) (TO.gq rfl rfl (q_gtr rfl rfl) (TO.q (q_pick0 rfl rfl) ?_)))))
 by_cases hs22 : v > a.vars
 ·refine TO.q (QT.toB (q_move rfl) (decide_eq_true hs22)) ?_
  refine TO.pd rfl rfl (TO.pd rfl rfl (TO.pd rfl rfl (TO.q (q_pick1 rfl rfl) (TO.nl ?_))))
  refine T.cond1 rfl ?_
  refine T.s (T.rg (TO.q (q_build plan25 inf25 rfl) (TO.l rfl (l_sb (v := (.agg #[(vI 0), (vI 0), nS, nS])) (vs := [(vI 0), (vI 0), nS, nS]) 0 inf25 rfl rfl rfl rfl rfl rfl (by simp [putL]) ?_))))
  refine TO.qa rfl (TO.nl (T.ret (Res.drop ?_)))
  refine Res.cell1b (vI 7) (i := 0) Tryz.results27 uT25 rfl inf25 rfl rfl rfl rfl ?_
  exact ⟨[], Sub.z, rfl, rfl⟩
 refine TO.q (QT.toB (q_move rfl) (decide_eq_false hs22)) (TO.gq rfl rfl (q_fa uT25 rfl inf3 rfl rfl) (TO.gq rfl rfl (q_lb 1 uT3 rfl rfl rfl rfl) (TO.gq rfl rfl (q_eql rfl rfl) (TO.q (q_pick0 rfl rfl) (TO.nl ?_)))))
 refine T.cond1 (congrArg Value.bool (decide_eq_true (by omega))) ?_
 refine T.s (T.rg (TO.q (q_build plan25 inf25 rfl) (TO.l rfl (l_sb (v := (.agg #[(vI 0), (vI 0), nS, nS])) (vs := [(vI 0), (vI 0), nS, nS]) 0 inf25 rfl rfl rfl rfl rfl rfl (by simp [putL]) ?_))))
 refine TO.qa rfl (TO.nl (T.ret (Res.drop ?_)))
 refine Res.cell1b (vI 7) (i := 0) Tryz.results27 uT25 rfl inf25 rfl rfl rfl rfl ?_
 exact ⟨[], Sub.z, rfl, rfl⟩
theorem insOk (w : World) [Tab Tryz.prog w] (a : DFA) (k : DK) (ha : At w a k) (hv : Valid a) (v : Nat) (hva : (v : Int) ≤ a.vars) (h5 : a.vars < 6) {M : DFA} (hM : minD (reD a ((a.vars.toNat + 1 : Nat) : Int) (cut v)) = M) :
  PureT Tryz.prog 27 [dV a k, vI ((v : Nat) : Int)] w fun v9 N => ∃ k9 : DK, v9 = .tuple #[dV M k9, vI 0] ∧ N = [dI 37 4 3 M k9] := by
 refine CallT.enter func27 rfl ntmps27 rfl ?_
 have he := checkD_zero.2 hv
 have h4 := hv.n4
 have hww : letN a ≤ 64 := hv.width
 have hfin := hv.fin
 have hvl := ha.rows.1
 have hsl := start_lt hv.toVal
 have hs0 := hv.s0
 have hs1 := hv.s1
 have hv0 := hv.v0
 have hp : 2 ^ v ≤ 2 ^ 5 := Nat.pow_le_pow_right (by decide) (by omega)
 have hp0 : 0 < 2 ^ v := Nat.pow_pos (by decide)
 refine T.s (T.rg (TO.l rfl (l_box (v := (dV a k)) (cs := (dC a k)) rfl rfl (fun z1 => ?_))))
 refine TO.l rfl (l_alloc inf25 rfl (fun z2 => ?_))
 refine TO.qa rfl (TO.nl (T.s (T.s (T.rg (TO.q (q_la 1 uT25 rfl inf25 rfl rfl rfl) ?_)))))
 have hk9 := fun (w1 : World) (hI : Inv w [oI z2 25 [(vI 0), (vI 0), nS, nS], oI z1 25 (dC a k)] w1) => (haveI := tbz hI; (show PureT _ _ _ _ _ from by
   have h9 := subsetCheck w1 a k.nb k.fb k.nc k.fc (vals k.qs) (hI.dfa ha) (by omega) hv.bound (by omega)
   rw [he] at h9
   exact h9))
 refine TO.l rfl (l_call ent35 (CallT.op hk9) rfl ?_)
 clear hk9
 rintro vr O' ⟨N, rfl, rfl, rfl⟩
 refine TO.qa rfl (TO.nl (T.s (T.rg (TO.qm rfl (TO.q (q_neq rfl rfl) (TO.nl (T.cond0 rfl (T.skip (T.s (T.s (T.rg (TO.qm rfl (TO.q (QT.toB (q_lss rfl rfl) (decide_eq_false (by omega))) (TO.qm rfl (TO.gq rfl rfl (q_move rfl) ?_)))))))))))))))
 refine TO.gq rfl rfl (q_fa uT25 rfl inf3 rfl rfl) (TO.gq rfl rfl (q_lb 1 uT3 rfl rfl rfl rfl) (TO.gq rfl rfl (QT.toB (q_gtr rfl rfl) (decide_eq_false (by omega))) (TO.q (q_pick0 rfl rfl) (TO.qm rfl (TO.gq rfl rfl (q_fa uT25 rfl inf3 rfl rfl) (TO.gq rfl rfl (q_lb 1 uT3 rfl rfl rfl rfl) (TO.gq rfl rfl (QT.toB (q_eql rfl rfl) (decide_eq_false (by omega))) (TO.q (q_pick0 rfl rfl) ?_))))))))
 refine TO.nl (T.cond0 rfl (T.skip (T.s (T.rg (TO.qm rfl (TO.q (QT.cast (q_shlU (a := 1) (b := v) .u8 rfl rfl (by simp only [IntKind.bits]; omega) (by simp only [IntKind.bits]; omega)) (v' := .int .u8 ((2 ^ v : Nat) : Int)) (by rw [Nat.one_mul])) (TO.q (q_subU (a := 2 ^ v) (b := 1) .u8 rfl rfl (by simp only [IntKind.bits]; omega) (by omega)) (TO.l rfl (l_alloc inf5 rfl (fun z3 => ?_))))))))))
 refine TO.l rfl (l_sb (v := .int .u8 ((2 ^ v - 1 : Nat) : Int)) (vs := [(.int .u8 ((2 ^ v - 1 : Nat) : Int))]) 0 inf5 rfl rfl rfl rfl rfl rfl (by simp [putL]) ?_)
 refine TO.nl (T.s (T.rg (TO.q (q_la 2 uT25 rfl inf25 rfl rfl rfl) (TO.q (q_fa uT25 rfl inf3 rfl rfl) (TO.q (q_lb 2 uT3 rfl rfl rfl rfl) (TO.q (QT.cast (q_add64 rfl rfl (by omega)) (v' := vI ((a.vars.toNat + 1 : Nat) : Int)) (congrArg (Value.int .i64) (by omega))) (TO.q (q_makeFunc) (TO.l rfl (l_call ent62 (CallT.un [0] (rebF w a k ha hv (a.vars.toNat + 1) (by omega) _ rfl (cut v) (fun x hx => cut_lt a.vars.toNat (by omega) v (by omega) x hx) (.func (.func 64) #[] #[(.pointer (aD z3))]) [oI z3 5 [(.int .u8 ((2 ^ v - 1 : Nat) : Int))]] (fun x hx => CallV.of_fn (first := []) (args := [.int .u8 ((x : Nat) : Int)]) (caps := [(.pointer (aD z3))]) ent64 (insF w z3 v x (by omega) (Nat.lt_of_lt_of_le hx (Nat.pow_le_pow_right (n := 2) (by decide) (show a.vars.toNat + 1 ≤ 6 by omega))))) hM)) rfl ?_)))))))))
 rintro vr O' ⟨A1, rfl, k9, rfl, rfl⟩
 refine TO.q (q_extract (vs := _) rfl rfl) (TO.q (q_extract (vs := _) rfl rfl) (TO.l rfl (l_sb (v := (dV M k9)) (vs := (dC M k9)) 1 inf25 rfl rfl rfl rfl rfl rfl (by simp [putL]) ?_)))
 refine TO.qa rfl (TO.nl (T.ret (Res.drop ?_)))
 refine Res.cell1b (vI 0) (i := 1) Tryz.results27 uT25 rfl inf25 rfl rfl rfl rfl ?_
 exact ⟨[dI 37 4 3 M k9], (by exact Sub.k .z), k9, rfl, rfl⟩
theorem insC (w : World) [Tab Tryz.prog w] (a : DFA) (k : DK) (ha : At w a k) (haa : a.next.length < 9223372036854775807) (haar : ∀ r ∈ a.next, r.length < 9223372036854775807) (haaf : a.final.length < 9223372036854775807) (v : Int) :
  PureT Tryz.prog 27 [dV a k, vI v] w fun v9 N => ∃ k9 : DK, v9 = .tuple #[dV (inV a v) k9, vI (inE2 a v : Int)] ∧ N = [dI 37 4 3 (inV a v) k9] := by
 by_cases he : checkD a ≠ 0
 ·have e1 : inE2 a v = checkD a := by unfold inE2; rw [if_pos he]
  have e2 : inV a v = noD := by unfold inV; rw [if_neg (by omega)]
  rw [e1, e2]
  refine (CallT.nilD 37 4 3 (insBad w a k ha haa haar haaf he v)).mono ?_
  rintro v9 N ⟨O2, rfl, rfl, rfl⟩
  exact ⟨k00, rfl, rfl⟩
 ·have hv : Valid a := checkD_zero.1 (by omega)
  by_cases hb : v < 0 ∨ a.vars < v ∨ a.vars = 6
  ·have e1 : inE2 a v = 7 := by unfold inE2; rw [if_neg he, if_pos hb]
   have e2 : inV a v = noD := by unfold inV; rw [if_neg (by omega)]
   rw [e1, e2]
   refine (CallT.nilD 37 4 3 (insVars w a k ha hv v hb)).mono ?_
   rintro v9 N ⟨O2, rfl, rfl, rfl⟩
   exact ⟨k00, rfl, rfl⟩
  ·have e1 : inE2 a v = 0 := by unfold inE2; rw [if_neg he, if_neg hb]
   have e2 : inV a v = minD (reD a (a.vars + 1) (cut v.toNat)) := by unfold inV; rw [if_pos e1]
   have hv0 := hv.v0
   have hv6 := hv.v6
   rw [e1, e2]
   obtain ⟨n, rfl⟩ : ∃ n : Nat, v = n := ⟨v.toNat, by omega⟩
   exact insOk w a k ha hv n (by omega) (by omega) (by rw [show ((a.vars.toNat + 1 : Nat) : Int) = a.vars + 1 by omega]; rfl)
end Go.Proofs.YtohkmggbfcnapaaGreatDoor


namespace Go.Proofs.YtohkmggbfcnapaaGreatDoor
open Go.Lx Go.RowKit _root_.Go.Proofs.Tryz
theorem ignBad (w : World) [Tab Tryz.prog w] (a : DFA) (k : DK) (ha : At w a k) (haa : a.next.length < 9223372036854775807) (haar : ∀ r ∈ a.next, r.length < 9223372036854775807) (haaf : a.final.length < 9223372036854775807) (v : Int) (he : vE a v ≠ 0) :
  PureT Tryz.prog 18 [dV a k, vI v] w fun r N => r = .tuple #[.bool false, vI (vE a v : Int)] ∧ N = [] := by
 refine CallT.enter func18 rfl ntmps18 rfl ?_
 refine T.s (T.rg (TO.l rfl (l_box (v := (dV a k)) (cs := (dC a k)) rfl rfl (fun bx1 => ?_))))
 refine TO.l rfl (l_alloc inf4 rfl (fun bx2 => ?_))
 refine TO.l rfl (l_alloc inf29 rfl (fun bx3 => ?_))
 refine TO.nl (T.s (T.s (T.rg (TO.q (q_la 2 uT25 rfl inf25 rfl rfl rfl) (TO.qm rfl ?_)))))
 have hk16 := fun (w1 : World) (hI : Inv w [oI bx3 29 [(vI 0)], oI bx2 4 [(.bool false)], oI bx1 25 (dC a k)] w1) => (haveI := tbz hI; pCheck w1 a k (hI.atB ha) haa haar haaf v)
 refine TO.l rfl (l_call ent48 (CallT.op hk16) rfl ?_)
 clear hk16
 rintro vr O' ⟨N, rfl, rfl, rfl⟩
 refine TO.qa rfl (TO.nl (T.s (T.rg (TO.qm rfl (TO.q (QT.toB (q_neq rfl rfl) (decide_eq_true (by omega))) (TO.nl ?_))))))
 refine T.cond1 rfl ?_
 refine T.s (T.rg (TO.qm rfl (TO.l rfl (l_sb (v := .bool false) (vs := [(.bool false)]) 1 inf4 rfl rfl rfl rfl rfl rfl (by simp [putL]) ?_))))
 refine TO.l rfl (l_sb (v := vI (vE a v : Int)) (vs := [(vI (vE a v : Int))]) 0 inf29 rfl rfl rfl rfl rfl rfl (by simp [putL]) ?_)
 refine TO.nl (T.ret (Res.drop ?_))
 refine Res.cell2s (i := 1) (j := 0) Tryz.results18 uT4 rfl uT29 rfl rfl rfl rfl rfl ?_
 exact ⟨[], Sub.z, rfl, rfl⟩
theorem ignOk (w : World) [Tab Tryz.prog w] (a : DFA) (k : DK) (ha : At w a k) (hv : Valid a) (v : Nat) (hva : (v : Int) < a.vars) {M : DFA} (hM : minD a = M) :
  PureT Tryz.prog 18 [dV a k, vI ((v : Nat) : Int)] w fun r N => r = .tuple #[.bool (ignB M v), vI 0] ∧ N = [] := by
 refine CallT.enter func18 rfl ntmps18 rfl ?_
 have he := checkD_zero.2 hv
 have h4 := hv.n4
 have hww : letN a ≤ 64 := hv.width
 have hfin := hv.fin
 have hvl := ha.rows.1
 have hsl := start_lt hv.toVal
 have hs0 := hv.s0
 have hs1 := hv.s1
 have hve : vE a v = 0 := vE_zero.2 ⟨hv, by omega, hva⟩
 have hMv : Valid M := hM ▸ minD_valid hv
 have hMs : M.vars = a.vars := by rw [← hM]; rfl
 have hv6 := hv.v6
 have hMn := hMv.n4
 have hlw : letN M ≤ 64 := hMv.width
 refine T.s (T.rg (TO.l rfl (l_box (v := (dV a k)) (cs := (dC a k)) rfl rfl (fun z1 => ?_))))
 refine TO.l rfl (l_alloc inf4 rfl (fun z2 => ?_))
 refine TO.l rfl (l_alloc inf29 rfl (fun z3 => ?_))
 refine TO.nl (T.s (T.s (T.rg (TO.q (q_la 2 uT25 rfl inf25 rfl rfl rfl) (TO.qm rfl ?_)))))
 have hk16 := fun (w1 : World) (hI : Inv w [oI z3 29 [(vI 0)], oI z2 4 [(.bool false)], oI z1 25 (dC a k)] w1) => (haveI := tbz hI; (show PureT _ _ _ _ _ from by
   have h9 := pCheck w1 a k (hI.atB ha) (by omega) hv.bound (by omega) (v : Int)
   rw [hve] at h9
   exact h9))
 refine TO.l rfl (l_call ent48 (CallT.op hk16) rfl ?_)
 clear hk16
 rintro vr O' ⟨N, rfl, rfl, rfl⟩
 refine TO.qa rfl (TO.nl (T.s (T.rg (TO.qm rfl (TO.q (QT.toB (q_neq rfl rfl) (decide_eq_false (by omega))) (TO.nl (T.cond0 rfl (T.skip (T.s (T.rg (TO.q (q_la 2 uT25 rfl inf25 rfl rfl rfl) ?_)))))))))))
 have hk22 := fun (w1 : World) (hI : Inv w [oI z3 29 [(vI 0)], oI z2 4 [(.bool false)], oI z1 25 (dC a k)] w1) => (haveI := tbz hI; minKE w1 a k (hI.atB ha) hv (by omega) (M := M) hM)
 refine TO.l rfl (l_call ent34 (CallT.op hk22) rfl ?_)
 clear hk22
 rintro vr O' ⟨N, rfl, k9, rfl, rfl⟩
 refine TO.qm rfl (TO.q (q_extract (vs := _) rfl rfl) (TO.q (q_extract (vs := _) rfl rfl) (TO.l rfl (l_alloc inf25 rfl (fun z4 => ?_)))))
 refine TO.l rfl (l_sb (v := (dV M k9)) (vs := (dC M k9)) 0 inf25 rfl rfl rfl rfl rfl rfl (by simp [putL]) ?_)
 refine TO.qa rfl (TO.nl (T.s (T.s ?_)))
 refine T.have (φ := nums k9.qs = M.next) (fun w9 hI => dI_nums hI (mG 1 rfl)) (fun hqs => ?_)
 have hvl9 : (vals k9.qs).length = M.next.length := by rw [← hqs]; simp
 refine T.rg (TO.q (q_fa uT25 rfl inf22 rfl rfl) (TO.q (q_lb 0 uT22 rfl rfl rfl rfl) (TO.q (q_len uT22 rfl) (TO.qm rfl (TO.nl (T.block ?_))))))
 refine T.loopS (fun (s : Nat) ρ O => O = [oI z4 25 (dC M k9), dI 37 4 3 M k9, oI z3 29 [(vI 0)], oI z2 4 [(.bool false)], oI z1 25 (dC a k)] ∧ s ≤ M.next.length ∧ (∀ s1, s1 < s → ∀ x, x < letN M → toN M s1 (c0 v x) = toN M s1 x) ∧ Heads [(0, (dV a k)), (1, vI ((v : Nat) : Int)), (2, (.pointer (aD z1))), (4, (.pointer (aD z2))), (5, (.pointer (aD z3))), (6, vI 0), (7, (.pointer (aD z4))), (26, (.slice k9.nb M.next.length k9.nc)), (27, vI (M.next.length : Int)), (28, vI ((s : Nat) : Int))] ρ) (fun s => M.next.length - s) 0 ?_ ?_
 ·exact ⟨rfl, Nat.zero_le _, fun s1 h => absurd h (by omega), (.of rfl)⟩
 rintro s ρ O ⟨rfl, hs, hall, hH⟩
 obtain ⟨ρ0, rfl⟩ := hH.elim
 clear hH
 refine T.s (T.rg (TO.q (q_lss rfl rfl) (TO.nl (T.s (T.condP rfl (fun hc => ?_) (fun hc => ?_))))))
 ·have hlt29 : s < M.next.length := by omega
  have hsl : s < M.next.length := by omega
  obtain ⟨q0, hq0, hz0⟩ := dk_row hqs hsl
  have hl1 : M.next[s].length = letN M := hMv.len _ (List.getElem_mem hsl)
  have hg9 : (vals k9.qs)[s]? = some (.slice q0.b M.next[s].length q0.c) := by rw [rvals_at hq0, hz0]
  refine T.skip (T.s (T.block (T.s (T.rg (TO.q (q_ix (i := s) uT22 inf37 rfl rfl (dI_outer (mG 1 rfl)) hsl (hvl9 ▸ hsl)) (TO.q (q_ld uT37 rfl rfl (dI_outer (mG 1 rfl)) hg9) (TO.l rfl (l_alloc inf37 rfl (fun z5 => ?_)))))))))
  refine TO.l rfl (l_sb (v := (.slice q0.b M.next[s].length q0.c)) (vs := [(.slice q0.b M.next[s].length q0.c)]) 0 inf37 rfl rfl rfl rfl rfl rfl (by simp [putL]) ?_)
  refine TO.nl (T.s (T.rg (TO.q (q_lb 0 uT37 rfl rfl rfl rfl) (TO.q (q_len uT37 rfl) (TO.qm rfl (TO.nl (T.block ?_)))))))
  refine T.loopS (fun (x : Nat) ρ O => O = [oI z5 37 [(.slice q0.b M.next[s].length q0.c)], oI z4 25 (dC M k9), dI 37 4 3 M k9, oI z3 29 [(vI 0)], oI z2 4 [(.bool false)], oI z1 25 (dC a k)] ∧ x ≤ M.next[s].length ∧ (∀ x1, x1 < x → toN M s (c0 v x1) = toN M s x1) ∧ Heads [(0, (dV a k)), (1, vI ((v : Nat) : Int)), (2, (.pointer (aD z1))), (4, (.pointer (aD z2))), (5, (.pointer (aD z3))), (6, vI 0), (7, (.pointer (aD z4))), (10, (.pointer (aD z5))), (26, (.slice k9.nb M.next.length k9.nc)), (27, vI (M.next.length : Int)), (28, vI ((s : Nat) : Int)), (32, (.slice q0.b M.next[s].length q0.c)), (33, vI (M.next[s].length : Int)), (34, vI ((x : Nat) : Int))] ρ) (fun x => M.next[s].length - x) 0 ?_ ?_
  ·exact ⟨rfl, Nat.zero_le _, fun x1 h => absurd h (by omega), (.of rfl)⟩
  rintro x ρ O ⟨rfl, hx, hrow, hH⟩
  obtain ⟨ρ0, rfl⟩ := hH.elim
  clear hH
  refine T.s (T.rg (TO.q (q_lss rfl rfl) (TO.nl (T.s (T.condP rfl (fun hc => ?_) (fun hc => ?_))))))
  ·have hlt35 : x < M.next[s].length := by omega
   have hxl : x < letN M := by omega
   obtain ⟨hto, _, hxk1, hx1⟩ := hMv.toN_lt hsl hxl
   have hx1 : (ints M.next[s])[x]? = some (vI ((toN M s x : Nat) : Int)) := by rw [ints_get hxk1, hx1]
   refine T.skip (T.s (T.block (T.s (T.rg (TO.qm rfl (TO.q (q_ix (i := x) uT37 inf3 rfl rfl (dI_row (mG 2 rfl) hq0 hz0) hxk1 (by rw [List.length_map]; exact hxk1)) (TO.q (q_ld uT3 rfl rfl (dI_row (mG 2 rfl) hq0 hz0) hx1) (TO.l rfl (l_alloc inf3 rfl (fun z6 => ?_))))))))))
   refine TO.qa rfl (TO.l rfl (l_sb (v := vI ((toN M s x : Nat) : Int)) (vs := [(vI ((toN M s x : Nat) : Int))]) 0 inf3 rfl rfl rfl rfl rfl rfl (by simp [putL]) ?_))
   refine TO.nl (T.s (T.rg (TO.qm rfl (TO.q (q_conv_id uT3 uT5 rfl (wrap8 (by omega))) (TO.qm rfl ?_)))))
   have hk42 := fun (w1 : World) (hI : Inv w [oI z6 3 [(vI ((toN M s x : Nat) : Int))], oI z5 37 [(.slice q0.b M.next[s].length q0.c)], oI z4 25 (dC M k9), dI 37 4 3 M k9, oI z3 29 [(vI 0)], oI z2 4 [(.bool false)], oI z1 25 (dC a k)] w1) => (haveI := tbz hI; variMk w1 x v)
   refine TO.l rfl (l_call ent52 (CallT.op hk42) rfl ?_)
   clear hk42
   rintro vr O' ⟨N, rfl, xb, vb, rfl, rfl⟩
   refine TO.nl (T.block ?_)
   refine T.rangeFunc (first := []) (caps := [(.pointer (aD vb)), (.pointer (aD xb))]) rfl ent87 (fun yl yq yhq => ?_)
   refine CallT.mono (CallT.sub (O' := oI vb 3 [(vI ((v : Nat) : Int))] :: oI xb 5 [(.int .u8 ((x : Nat) : Int))] :: (objI yl (lp yq none) :: [oI z6 3 [(vI ((toN M s x : Nat) : Int))], oI z5 37 [(.slice q0.b M.next[s].length q0.c)], oI z4 25 (dC M k9), dI 37 4 3 M k9, oI z3 29 [(vI 0)], oI z2 4 [(.bool false)], oI z1 25 (dC a k)])) (Sub.pick [1, 1, 0, 0, 0, 0, 0, 0, 0, 0] rfl) (variF w xb vb v x (by omega) (by omega) (.func (.yield yl) #[] #[]) (fun i9 O => O = objI yl (lp yq none) :: [oI z6 3 [(vI ((toN M s x : Nat) : Int))], oI z5 37 [(.slice q0.b M.next[s].length q0.c)], oI z4 25 (dC M k9), dI 37 4 3 M k9, oI z3 29 [(vI 0)], oI z2 4 [(.bool false)], oI z1 25 (dC a k)] ∧ (0 < i9 → toN M s (c0 v x) = toN M s x)) (fun O => O = objI yl (lp yq (some .ret)) :: [oI z6 3 [(vI ((toN M s x : Nat) : Int))], oI z5 37 [(.slice q0.b M.next[s].length q0.c)], oI z4 25 (dC M k9), dI 37 4 3 M k9, oI z3 29 [(vI 0)], oI z2 4 [(.bool false)], oI z1 25 (dC a k)] ∧ ignB M v = false) ?_ _ ?_)) ?_
   ·intro i y O hiy hJ
    obtain ⟨rfl, hJ0⟩ := hJ
    refine CallV.yield yhq rfl rfl ?_
    have hyy : y = c0 v x ∨ y = c1 v x := hiy.elim (fun h => .inl h.2) (fun h => .inr h.2)
    have hyl : y < letN M := by
     rcases hyy with rfl | rfl
     ·exact c0_lt hxl
     ·exact c1_lt (letN6 hMv.toVal) (by omega) hxl
    obtain ⟨hty, _, hyk1, hy1⟩ := hMv.toN_lt hsl hyl
    have hy1 : (ints M.next[s])[y]? = some (vI ((toN M s y : Nat) : Int)) := by rw [ints_get hyk1, hy1]
    refine T.rg (TO.qa rfl (TO.nl (T.block (T.s ?_))))
    refine T.draws _ [(0, 0), (1, 0), (2, 0), (3, 0), (4, 0), (5, 0)] mixed (by kernel_rfl) (Sub.of (List.Sublist.refl _)) (fun _ _ _ h => h) ?_
    refine DO.q rfl (q_lb 1 uT37 rfl rfl rfl rfl) (DO.q rfl (q_move rfl) (DO.q rfl (q_ix (i := y) uT37 inf3 rfl rfl (dI_row (mG 3 rfl) hq0 hz0) hyk1 (by rw [List.length_map]; exact hyk1)) (DO.q rfl (q_ld uT3 rfl rfl (dI_row (mG 3 rfl) hq0 hz0) hy1) (DO.q rfl (q_lb 0 uT3 rfl rfl rfl rfl) (DO.q rfl (q_neq rfl rfl) ?_)))))
    refine DO.done ?_
    refine T.condP rfl (fun hc => ?_) (fun hc => ?_)
    ·have hlt49 : toN M s y ≠ toN M s x := by omega
     refine T.s (T.rg (TO.l rfl (l_sb (v := .bool false) (vs := [(.bool false)]) 5 inf4 rfl rfl rfl rfl rfl rfl (by simp [putL]) ?_)))
     refine TO.l rfl (l_sb (v := vI 0) (vs := [(vI 0)]) 4 inf29 rfl rfl rfl rfl rfl rfl (by simp [putL]) ?_)
     refine TO.nl (T.ret ?_)
     exact .inr ⟨rfl, rfl, ign_no (by omega) (letN6 hMv.toVal) hsl hxl hyy (by omega)⟩
    have hge49 : ¬ toN M s y ≠ toN M s x := by omega
    refine T.skip ?_
    refine .inl ⟨rfl, rfl, fun _ => ?_⟩
    rcases hiy with ⟨rfl, rfl⟩ | ⟨rfl, rfl⟩
    ·omega
    ·exact hJ0 (by decide)
   ·exact ⟨rfl, fun h => absurd h (by decide)⟩
   rintro v9 O' (⟨rfl, hx0⟩ | ⟨rfl, hno⟩)
   ·refine ⟨none, _, rfl, ?_⟩
    have hx0 := hx0 (by decide)
    refine T.rg (TO.q (q_addN (a := x) (b := 1) rfl rfl (by omega)) (TO.qm rfl (TO.nl ?_)))
    exact ⟨x + 1, by omega, [oI z5 37 [(.slice q0.b M.next[s].length q0.c)], oI z4 25 (dC M k9), dI 37 4 3 M k9, oI z3 29 [(vI 0)], oI z2 4 [(.bool false)], oI z1 25 (dC a k)], (by exact Sub.d (.k (.k (.k (.k (.k (.k .z))))))), rfl, by omega, fun x1 h1 => (Nat.lt_succ_iff_lt_or_eq.1 h1).elim (fun h => hrow x1 h) (fun h => h ▸ hx0), (.of rfl)⟩
   refine ⟨some .ret, _, rfl, ?_⟩
   refine Res.drop ?_
   refine Res.cell2s (i := 5) (j := 4) Tryz.results18 uT4 rfl uT29 rfl rfl rfl rfl rfl ?_
   rw [hno]
   exact ⟨[], Sub.z, rfl, rfl⟩
  have hge35 : ¬ x < M.next[s].length := by omega
  refine T.exit ?_
  refine T.rg (TO.q (q_addN (a := s) (b := 1) rfl rfl (by omega)) (TO.qm rfl (TO.nl ?_)))
  have hxe : x = letN M := by omega
  exact ⟨s + 1, by omega, [oI z4 25 (dC M k9), dI 37 4 3 M k9, oI z3 29 [(vI 0)], oI z2 4 [(.bool false)], oI z1 25 (dC a k)], (by exact Sub.d (.k (.k (.k (.k (.k .z)))))), rfl, by omega, fun s1 h1 x1 hx1 => (Nat.lt_succ_iff_lt_or_eq.1 h1).elim (fun h => hall s1 h x1 hx1) (fun h => h ▸ hrow x1 (by omega)), (.of rfl)⟩
 have hge29 : ¬ s < M.next.length := by omega
 refine T.exit ?_
 refine T.s (T.rg (TO.l rfl (l_sb (v := .bool true) (vs := [(.bool true)]) 3 inf4 rfl rfl rfl rfl rfl rfl (by simp [putL]) ?_)))
 refine TO.l rfl (l_sb (v := vI 0) (vs := [(vI 0)]) 2 inf29 rfl rfl rfl rfl rfl rfl (by simp [putL]) ?_)
 refine TO.nl (T.ret (Res.drop ?_))
 refine Res.cell2s (i := 3) (j := 2) Tryz.results18 uT4 rfl uT29 rfl rfl rfl rfl rfl ?_
 rw [ign_yes (m := M) (v := v) (fun s1 h1 x1 hx1 => hall s1 (by omega) x1 hx1)]
 exact ⟨[], Sub.z, rfl, rfl⟩
theorem ignC (w : World) [Tab Tryz.prog w] (a : DFA) (k : DK) (ha : At w a k) (haa : a.next.length < 9223372036854775807) (haar : ∀ r ∈ a.next, r.length < 9223372036854775807) (haaf : a.final.length < 9223372036854775807) (v : Int) :
  PureT Tryz.prog 18 [dV a k, vI v] w fun r N => r = .tuple #[.bool (igV a v), vI (vE a v : Int)] ∧ N = [] := by
 by_cases he : vE a v = 0
 ·obtain ⟨hv, h0, h1⟩ := vE_zero.1 he
  obtain ⟨n, rfl⟩ : ∃ n : Nat, v = n := ⟨v.toNat, by omega⟩
  rw [igV_ok he, he]
  exact ignOk w a k ha hv n h1 rfl
 ·rw [igV_bad he]
  exact ignBad w a k ha haa haar haaf v he
end Go.Proofs.YtohkmggbfcnapaaGreatDoor


namespace Go.Proofs.YtohkmggbfcnapaaGreatDoor
open Go.Lx Go.RowKit _root_.Go.Proofs.Tryz
theorem pow2C (w : World) [Tab Tryz.prog w] :
  PureT Tryz.prog 149 [vI 16] w fun v N => v = .bool true ∧ N = [] := by
 refine CallT.enter func149 rfl ntmps149 rfl ?_
 refine T.s (T.rg (TO.qa rfl (TO.nl (T.s (T.rg (TO.qm rfl (TO.qm rfl (TO.q (QT.cast (q_sub64 rfl rfl (by omega)) (v' := vI 15) rfl) (TO.q (q_and16 rfl rfl) (TO.q (QT.toB (q_eql rfl rfl) (b' := true) rfl) (TO.qa rfl (TO.nl (T.ret ?_)))))))))))))
 refine Res.one (.bool true) Tryz.results149 rfl ?_
 exact ⟨rfl, rfl⟩
theorem tz16 (w : World) [Tab Tryz.prog w] :
  PureT Tryz.prog 150 [.int .u64 16] w fun v N => v = vI 4 ∧ N = [] := by
 refine CallT.enter func150 rfl ntmps150 rfl ?_
 refine T.s (T.rg (TO.qa rfl (TO.nl (T.s (T.cond0 rfl (T.skip (T.s (T.rg (TO.qm rfl ?_)))))))))
 have hk7 := fun (w1 : World) (hI : Inv w [] w1) => (haveI := Inv.tab (P := Tryz.prog) hI; (show PureT _ _ _ _ _ from by
   have h9 := tzC w1 16 (by decide) (by decide)
   rw [show Lib.ctz 64 16 = 4 by decide] at h9
   exact h9))
 refine TO.l rfl (l_call ent112 (CallT.op hk7) rfl ?_)
 clear hk7
 rintro vr O' ⟨N, rfl, rfl, rfl⟩
 refine TO.qa rfl (TO.nl (T.ret ?_))
 refine Res.one (vI 4) Tryz.results150 rfl ?_
 exact ⟨rfl, rfl⟩
theorem fmtF (base : World) [Tab Tryz.prog base] (b : Option Addr) (c : Nat) (l : List Nat) (w0 : Nat) (hw : w0 < 18446744073709551616) (hl : l.length < 1000000) :
  CallT Tryz.prog base 130 [.slice b l.length c, .int .u64 ((w0 : Nat) : Int), vI 16, .bool false, .bool true] [rowI b c 5 1 (byts l)] (fun v O' => ∃ b2 c2, v = .tuple #[.slice b2 (l.length + (hexL w0).length) c2, .string ⟨#[]⟩] ∧ O' = [rowI b2 c2 5 1 (byts l ++ byts (hexL w0))]) := by
 refine CallT.enter func130 rfl ntmps130 rfl ?_
 refine T.s (T.rg (TO.qa rfl (TO.qa rfl (TO.nl (T.s (T.s (T.rg (TO.qm rfl (TO.q (QT.toB (q_lss rfl rfl) (decide_eq_false (by decide))) (TO.qm rfl (TO.gq rfl rfl (q_move rfl) (TO.gq rfl rfl (QT.toB (q_eql rfl rfl) (decide_eq_false (by decide))) (TO.q (q_pick0 rfl rfl) (TO.qm rfl (TO.gq rfl rfl (q_move rfl) ?_)))))))))))))))
 refine TO.gq rfl rfl (QT.toB (q_gtr rfl rfl) (decide_eq_false (by decide))) (TO.q (q_pick0 rfl rfl) (TO.nl (T.cond0 rfl (T.skip (T.s (T.rg (TO.l rfl (l_alloc inf180 rfl (fun z1 => ?_)))))))))
 refine TO.sub (O' := [oI z1 180 (List.replicate 65 (.int .u8 0)), rowI b c 5 1 (byts l)]) (by exact Sub.rf) ?_
 refine TO.nl (T.s (T.rg (TO.qa rfl (TO.nl (T.s (T.s (T.rg (TO.qm rfl (TO.nl (T.cond0 rfl (T.skip (T.s (T.s (T.rg (TO.qm rfl ?_)))))))))))))))
 have hk34 := fun (w1 : World) (hI : Inv base [oI z1 180 (List.replicate 65 (.int .u8 0)), rowI b c 5 1 (byts l)] w1) => (haveI := Inv.tab (P := Tryz.prog) hI; pow2C w1)
 refine TO.l rfl (l_call ent149 (CallT.op hk34) rfl ?_)
 clear hk34
 rintro vr O' ⟨N, rfl, rfl, rfl⟩
 refine TO.nl ?_
 refine T.cond1 rfl ?_
 refine T.s (T.rg (TO.qm rfl (TO.q (q_conv_id underlying3 underlying52 rfl rfl) ?_)))
 have hk37 := fun (w1 : World) (hI : Inv base [oI z1 180 (List.replicate 65 (.int .u8 0)), rowI b c 5 1 (byts l)] w1) => (haveI := Inv.tab (P := Tryz.prog) hI; tz16 w1)
 refine TO.l rfl (l_call ent150 (CallT.op hk37) rfl ?_)
 clear hk37
 rintro vr O' ⟨N, rfl, rfl, rfl⟩
 refine TO.q (q_conv_id underlying3 underlying52 rfl rfl) (TO.qa rfl (TO.nl (T.s (T.rg (TO.qm rfl (TO.q (q_conv_id underlying3 underlying107 rfl rfl) (TO.qa rfl (TO.nl (T.s (T.rg (TO.qm rfl (TO.q (q_conv_id underlying3 underlying52 rfl rfl) (TO.q (QT.cast (q_subU (a := 16) (b := 1) .u64 rfl rfl (by decide) (by decide)) (v' := .int .u64 15) rfl) (TO.qa rfl (TO.nl (T.s (T.block ?_)))))))))))))))))
 refine T.loop (fun (u : Nat) ρ O => ∃ (ds : List Nat) (cs : List Value), O = [objI z1 (.cells (List.toArray cs) 180 (0, 0)), rowI b c 5 1 (byts l)] ∧ HexI w0 u ds ∧ ArrI cs ds ∧ Heads [(0, (.slice b l.length c)), (1, .int .u64 ((u : Nat) : Int)), (2, vI 16), (3, .bool false), (4, .bool true), (10, nS), (11, .string ⟨#[]⟩), (12, (.pointer (aD z1))), (13, vI ((65 - ds.length : Nat) : Int)), (14, .int .u64 4), (15, .int .u64 16), (16, .int .u64 15)] ρ) (fun u => u) w0 ?_ ?_
 ·exact ⟨[], _, rfl, HexI.zero hw, ⟨by simp, fun q h => by cases h⟩, (.of rfl)⟩
 rintro u ρ O ⟨ds, cs, rfl, hE, hA, hH⟩
 obtain ⟨ρ0, rfl⟩ := hH.elim
 clear hH
 have hu64 := hE.le
 have hdl : ds.length ≤ 15 := by obtain ⟨f9, _, _, h3, h4⟩ := hE; omega
 refine T.s (T.s (T.rg (TO.qm rfl (TO.qm rfl (TO.q (QT.cast (q_geq rfl rfl) (v' := .bool (decide (16 ≤ u))) (congrArg Value.bool (decide_eq_decide.2 (by omega)))) (TO.nl (T.condP rfl (fun hc => ?_) (fun hc => ?_))))))))
 ·have hge : 16 ≤ u := hc
  obtain ⟨b9, hb9, hm9⟩ := digS (u % 16) (by omega)
  refine T.skip (T.block (T.s (T.rg (TO.qm rfl (TO.q (QT.cast (q_sub64 rfl rfl (by omega)) (v' := vI ((65 - ds.length - 1 : Nat) : Int)) (congrArg (Value.int .i64) (by omega))) (TO.qa rfl (TO.nl (T.s (T.rg (TO.qm rfl (TO.qm rfl (TO.qm rfl (TO.q (QT.cast (q_and (a := u) (b := 15) .u64 rfl rfl (by simp only [IntKind.bits]; omega) (by decide)) (v' := .int .u64 ((u % 16 : Nat) : Int)) (by rw [show (15 : Nat) = 2 ^ 4 - 1 by decide, Nat.and_two_pow_sub_one_eq_mod])) (TO.q (q_idxStr (bs := digB) (i := u % 16) underlying9 rfl rfl hb9 hm9) (TO.q (QT.cast (q_ixArr (i := 65 - ds.length - 1) underlying180 inf5 rfl rfl (by omega)) (v' := (.pointer (some ⟨z1, 65 - ds.length - 1, none⟩))) (by rw [Nat.zero_add, Nat.mul_one])) (TO.l rfl (l_sb (v := .int .u8 ((dgt (u % 16) : Nat) : Int)) (vs := [.int .u8 ((dgt (u % 16) : Nat) : Int)]) 0 inf5 rfl rfl rfl rfl rfl rfl (by have := hA.1; simp; omega) ?_)))))))))))))))))
  refine TO.nl (T.rg (TO.qm rfl (TO.qm rfl (TO.q (QT.cast (q_shr (a := u) (b := 4) .u64 rfl rfl (by simp only [IntKind.bits]; omega) (by decide)) (v' := .int .u64 ((u / 16 : Nat) : Int)) (by rw [Nat.shiftRight_eq_div_pow])) (TO.qa rfl (TO.nl ?_))))))
  obtain ⟨hE2, _⟩ := hE.step hge
  exact ⟨u / 16, by omega, _, _, rfl, hE2, hA.put hdl, ⟨rfl, rfl, rfl, rfl, rfl, rfl, rfl, rfl, (congrArg (fun n : Nat => Value.int .i64 (n : Int)) (by simp only [List.length_cons]; omega)), rfl, rfl, rfl, trivial⟩⟩
 have hlt16 : u < 16 := by have := hc; omega
 obtain ⟨b9, hb9, hm9⟩ := digS u hlt16
 obtain ⟨hx1, hx2⟩ := hE.done hlt16
 refine T.exit ?_
 refine T.s (T.rg (TO.qm rfl (TO.q (QT.cast (q_sub64 rfl rfl (by omega)) (v' := vI ((65 - ds.length - 1 : Nat) : Int)) (congrArg (Value.int .i64) (by omega))) (TO.qa rfl (TO.nl (T.rg (TO.qm rfl (TO.qm rfl (TO.q (q_idxStr (bs := digB) (i := u) underlying9 rfl rfl hb9 hm9) (TO.q (QT.cast (q_ixArr (i := 65 - ds.length - 1) underlying180 inf5 rfl rfl (by omega)) (v' := (.pointer (some ⟨z1, 65 - ds.length - 1, none⟩))) (by rw [Nat.zero_add, Nat.mul_one])) (TO.l rfl (l_sb (v := .int .u8 ((dgt u : Nat) : Int)) (vs := [.int .u8 ((dgt u : Nat) : Int)]) 0 inf5 rfl rfl rfl rfl rfl rfl (by have := hA.1; simp; omega) ?_))))))))))))
 refine TO.nl (T.s (T.s (T.rg (TO.qm rfl (TO.nl (T.cond0 rfl (T.skip (T.s (T.s (T.rg (TO.qm rfl (TO.nl ?_))))))))))))
 refine T.cond1 rfl ?_
 refine T.s (T.rg (TO.qm rfl (TO.qm rfl (TO.q (q_sliceAF (l := 65 - ds.length - 1) underlying180 inf5 rfl rfl (by omega)) (TO.l rfl (l_appendAF (new := byts (hexL w0)) (o := 65 - ds.length - 1) 0 1 underlying46 underlying46 inf5 rfl rfl rfl rfl (by simp) (by rw [hx1]; simp; omega) rfl (hA.fin hx2 hx1) (by simp [oneB]) (by omega) (by decide) (by decide) (fun b2 c2 => ?_)))))))
 refine TO.qa rfl (TO.nl (T.ret (Res.drop ?_)))
 refine Res.two (.slice b2 (l.length + (65 - (65 - ds.length - 1))) c2) (.string ⟨#[]⟩) Tryz.results130 rfl rfl ?_
 have hlen : (hexL w0).length = 65 - (65 - ds.length - 1) := by rw [hx1]; simp; omega
 exact ⟨[rowI b2 c2 5 1 (byts l ++ byts (hexL w0))], (by exact Sub.d (.k .z)), b2, c2, by rw [hlen], rfl⟩
theorem appF2 (base : World) [Tab Tryz.prog base] (b : Option Addr) (c : Nat) (l : List Nat) (w0 : Nat) (hw : w0 < 18446744073709551616) (hl : l.length < 1000000) :
  CallT Tryz.prog base 110 [.slice b l.length c, .int .u64 ((w0 : Nat) : Int), vI 16] [rowI b c 5 1 (byts l)] (fun v O' => ∃ b2 c2, v = .slice b2 (l.length + (hexL w0).length) c2 ∧ O' = [rowI b2 c2 5 1 (byts l ++ byts (hexL w0))]) := by
 refine CallT.enter func110 rfl ntmps110 rfl ?_
 refine T.s (T.rg (TO.qa rfl (TO.nl (T.s (T.s (T.rg (TO.qm rfl (TO.q (QT.toB (q_eql rfl rfl) (decide_eq_false (by decide))) (TO.nl (T.cond0 rfl (T.skip (T.s (T.rg (TO.qm rfl (TO.qm rfl (TO.qm rfl ?_))))))))))))))))
 have hk32 := fmtF base b c l w0 hw hl
 refine TO.l rfl (l_call ent130 hk32 rfl ?_)
 clear hk32
 rintro vr O' ⟨b2, c2, rfl, rfl⟩
 refine TO.qm rfl (TO.q (q_extract (vs := _) rfl rfl) (TO.q (q_extract (vs := _) rfl rfl) (TO.qa rfl (TO.nl (T.s (T.rg (TO.qm rfl (TO.qa rfl (TO.nl (T.ret ?_))))))))))
 refine Res.one (.slice b2 (l.length + (hexL w0).length) c2) Tryz.results110 rfl ?_
 exact ⟨_, _, rfl, rfl⟩
theorem appF3 (base : World) [Tab Tryz.prog base] (b : Option Addr) (c : Nat) (l : List Nat) (w0 : Nat) (hw : w0 < 18446744073709551616) (hl : l.length < 1000000) :
  CallT Tryz.prog base 85 [.slice b l.length c, .int .u64 ((w0 : Nat) : Int), vI 16] [rowI b c 5 1 (byts l)] (fun v O' => ∃ b2 c2, v = .slice b2 (l.length + (hexL w0).length) c2 ∧ O' = [rowI b2 c2 5 1 (byts l ++ byts (hexL w0))]) := by
 refine CallT.enter func85 rfl ntmps85 rfl ?_
 refine T.s (T.rg (TO.qa rfl (TO.nl (T.s (T.rg (TO.qm rfl (TO.qm rfl (TO.qm rfl ?_))))))))
 have hk10 := appF2 base b c l w0 hw hl
 refine TO.l rfl (l_call ent110 hk10 rfl ?_)
 clear hk10
 rintro vr O' ⟨b2, c2, rfl, rfl⟩
 refine TO.qa rfl (TO.nl (T.ret ?_))
 refine Res.one (.slice b2 (l.length + (hexL w0).length) c2) Tryz.results85 rfl ?_
 exact ⟨_, _, rfl, rfl⟩
theorem keyC (w : World) [Tab Tryz.prog w] (b : Option Addr) (m : Nat) (hb : Sl w b (uns [m])) (hw : m < 18446744073709551616) :
  PureT Tryz.prog 50 [.slice b 1 1] w fun v N => v = str (keyM m) ∧ N = [] := by
 refine CallT.enter func50 rfl ntmps50 rfl ?_
 have hhl : (hexL m).length ≤ 16 := hexF_len 16 m
 refine T.s (T.rg (TO.qa rfl (TO.nl (T.s (T.rg (TO.qa rfl (TO.nl (T.s (T.s (T.rg (TO.qm rfl (TO.q (QT.cast (q_len underlying67 rfl) (v' := vI 1) rfl) (TO.qm rfl (TO.nl (T.block ?_)))))))))))))))
 refine T.rounds 2 (T.round ?_)
 refine T.s (T.rg (TO.q (QT.toB (q_lss rfl rfl) (b' := true) rfl) (TO.nl (T.s ?_))))
 refine T.cond1 rfl ?_
 refine T.skip (T.s (T.block (T.s (T.rg (TO.q (q_ix (i := 0) underlying67 inf107 rfl rfl (Sl.o hb) (by decide) (by simp)) (TO.q (q_ld underlying107 rfl rfl (Sl.o hb) rfl) (TO.qa rfl (TO.nl (T.nilRow 5 1 ?_)))))))))
 refine T.rg (TO.qm rfl (TO.qm rfl ?_))
 have hk14 := appF3 w none 0 [] m hw (by decide)
 refine TO.l rfl (l_call ent85 hk14 rfl ?_)
 clear hk14
 rintro vr O' ⟨b2, c2, rfl, rfl⟩
 refine TO.l rfl (l_build1 (v := .int .u8 32) underlying46 inf5 rfl rfl rfl (fun bx1 => ?_))
 refine TO.l rfl (l_append 1 underlying46 underlying46 inf5 rfl rfl rfl rfl (by simp) (by decide) (Src.row (j := 0) rfl (by simp)) (by simp [oneB]) (by simp only [List.length_nil]; omega) (by decide) (by decide) (fun bx2 c3 => ?_))
 refine TO.qa rfl (TO.nl (T.rg (TO.q (QT.cast (q_add64 rfl rfl (by omega)) (v' := vI 1) rfl) (TO.qm rfl (TO.nl ?_)))))
 refine Rnd.reset [rowI (aD bx1) 1 5 1 [.int .u8 32], rowI bx2 c3 5 1 ((byts [] ++ byts (hexL m)) ++ [.int .u8 32])] [(0, (.slice b 1 1)), (2, .string ⟨#[]⟩), (3, (.slice bx2 ((0 + (hexL m).length) + 1) c3)), (5, .int .u64 ((m : Nat) : Int)), (6, (.slice b 1 1)), (7, vI 1), (8, vI 1)] rfl (.of rfl) (fun ρ0 => ?_)
 refine T.round ?_
 refine T.s (T.rg (TO.q (QT.toB (q_lss rfl rfl) (b' := false) rfl) (TO.nl (T.s (T.cond0 rfl ?_)))))
 refine T.exit ?_
 refine T.s ?_
 refine T.sub (O' := [rowI bx2 c3 5 1 (cells8 (keyM m))]) (by rw [← keyM_cells]; exact Sub.d (.k .z)) ?_
 refine T.rg (TO.qm rfl (TO.q (q_b2s (l := keyM m) underlying46 underlying9 underlying5 rfl (mG 0 rfl) (keyM_len m)) (TO.qa rfl (TO.nl (T.ret (Res.drop ?_))))))
 refine Res.one (str (keyM m)) Tryz.results50 rfl ?_
 exact ⟨[], Sub.z, rfl, rfl⟩
end Go.Proofs.YtohkmggbfcnapaaGreatDoor

