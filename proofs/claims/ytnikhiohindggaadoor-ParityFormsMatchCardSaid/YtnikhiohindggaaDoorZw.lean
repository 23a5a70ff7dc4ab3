/- Contracts of functions of the program (Yx, Yn, Yq, Zh, Zi, Zn, Zj, Zl, Zw): what each call answers and that it leaves memory as it was. Conditions: those each theorem names. -/
import Derived.Test.YtnikhiohindggaaDoorCoreL
import Derived.Test.YtnikhiohindggaaDoorZv
import Derived.Test.YtnikhiohindggaaDoorZb
import Derived.Test.YtnikhiohindggaaDoorTar
import Derived.Test.YtnikhiohindggaaDoorYm
set_option linter.unusedSectionVars false
set_option linter.unusedSimpArgs false
set_option linter.unusedVariables false
set_option linter.unnecessarySimpa false
set_option maxHeartbeats 8000000
set_option maxRecDepth 20000
namespace Go.Proofs.YtnikhiohindggaaDoor
open Go.Lx Go.RowKit _root_.Go.Proofs.Tryd
theorem pathT (base : World) [Tab Tryd.prog base] (d : DFA) (nb : Option Addr) (nc : Nat) (vs : List Value) (hS : Sl base nb vs) (hr : RowsR base vs d.next) (hv : Val d) (hn : d.next.length ≤ 4096) (hw6 : letN d ≤ 64) (OO : List Lx.Item) (al to : Nat → Bool) (fal fto : Value)
  (hal : ∀ t, t < d.next.length → CallV Tryd.prog base fal [vI ((t : Nat) : Int)] OO (fun v O' => v = .bool (decide (al t = true)) ∧ O' = OO)) (hto : ∀ t, t < d.next.length → CallV Tryd.prog base fto [vI ((t : Nat) : Int)] OO (fun v O' => v = .bool (decide (to t = true)) ∧ O' = OO))
  (frm : Nat) (hfn : frm < d.next.length) (hex : ∃ (Q : Nat → Prop) (t : Nat), (∀ v, Q v → al v = true) ∧ to t = true ∧ ((true = false ∧ Rch (InS (DE d) Q) frm t) ∨ ∃ c, InS (DE d) Q frm c ∧ Rch (InS (DE d) Q) c t)) :
  CallT Tryd.prog base 87 [.slice nb d.next.length nc, vI ((frm : Nat) : Int), .bool true, fal, fto] OO (fun v O' => ∃ w t b c, PathR d al to frm true w t ∧ v = .tuple #[.slice b w.length c, vI ((t : Nat) : Int)] ∧ O' = rowI b c 5 1 (byts w) :: OO) := by
 refine CallT.enter func87 rfl ntmps87 rfl ?_
 have hvl := hr.1
 have hwd : letN d ≤ 64 := hw6
 refine T.s (T.rg (TO.qa rfl (TO.qa rfl (TO.nl (T.s (T.s (T.rg (TO.qm rfl (TO.q (q_not rfl) (TO.qm rfl (TO.pd rfl rfl (TO.pd rfl rfl (TO.pd rfl rfl (TO.q (q_pick0 rfl rfl) ?_))))))))))))))
 refine TO.nl (T.cond0 rfl (T.skip (T.s (T.rg (TO.l rfl (l_makeMap KIn Value.bool (fun mp1 => ?_)))))))
 refine TO.qm rfl (TO.qm rfl (TO.q (q_not rfl) (TO.l rfl (l_mapInsert (a := ((frm : Nat) : Int)) (v := !true) 0 underlying79 (KeyOk.int underlying3) rfl rfl rfl rfl (by simp) ?_))))
 refine TO.qm rfl (TO.qa rfl (TO.nl (T.s (T.rg (TO.qm rfl (TO.q (q_build (cs := [vI ((frm : Nat) : Int), vI (-1), .int .u8 0]) plan120 inf120 (by kernel_rfl)) (TO.l rfl (l_buildSlice (m := 1) (parts := [(0, _)]) (cs := [vI ((frm : Nat) : Int), vI (-1), .int .u8 0]) underlying121 inf120 (by decide) (by kernel_rfl) rfl (fun z2 => ?_)))))))))
 refine TO.qa rfl (TO.nl (T.s (T.s (T.rg (TO.qa rfl (TO.nl (T.block ?_)))))))
 have hnt : true = false → to frm = false := fun h => by first | exact absurd h (by decide) | exact Bool.eq_false_iff.2 h23
 refine T.loopS (fun (i : Nat) ρ O => ∃ (sb : Option Addr) (sc : Nat) (st : List St3) (m : List (Int × Bool)), O = ([rowI sb sc 120 3 (st3C st), mapI KIn Value.bool mp1 m] ++ OO) ∧ i ≤ st.length ∧ BfI d al to frm true st i 0 ∧ SeenM true frm st m ∧ Heads [(0, (.slice nb d.next.length nc)), (1, vI ((frm : Nat) : Int)), (2, .bool true), (3, fal), (4, fto), (10, nS), (12, (.map (some mp1))), (13, (.slice sb st.length sc)), (14, vI ((i : Nat) : Int))] ρ) (fun i => d.next.length + 1 - i) 0 ?_ ?_
 ·exact ⟨(aD z2), 1, [(frm, -1, 0)], [(((frm : Nat) : Int), !true)], rfl, Nat.zero_le _, BfI.start hfn hnt, SeenM.start true frm, (.of rfl)⟩
 rintro i ρ O ⟨sb, sc, st, m, rfl, hi, hB, hM, hH⟩
 obtain ⟨ρ0, rfl⟩ := hH.elim
 clear hH
 have hst := hB.len
 refine T.s (T.s (T.rg (TO.qm rfl (TO.qm rfl (TO.q (q_len underlying121 rfl) (TO.q (q_lss rfl rfl) (TO.nl (T.condP rfl (fun hc => ?_) (fun hc => ?_)))))))))
 ·have hlt37 : i < st.length := by omega
  have hlti : i < st.length := by omega
  obtain ⟨q9, hq9e⟩ : ∃ q, st[i] = q := ⟨_, rfl⟩
  have hq9 : st[i]? = some q9 := by rw [List.getElem?_eq_getElem hlti, hq9e]
  have hqn : q9.1 < d.next.length := hB.lt _ (hq9e ▸ List.getElem_mem hlti)
  obtain ⟨v1, c1, g1, s1⟩ := hr.get hqn
  have hr1 : d.next[q9.1].length = letN d := hv.len _ (List.getElem_mem hqn)
  refine T.skip (T.s (T.block (T.s (T.rg (TO.qm rfl (TO.qm rfl (TO.qm rfl (TO.q (q_ixK (i := i) underlying121 inf120 rfl rfl (rowO (mG 0 rfl)) (by first | assumption | omega | (simp; omega) | simp_all) (by first | (rw [st3_len]; omega) | (simp [st3_len]; omega) | (simp_all [st3_len]; omega))) (TO.q (q_fieldEl underlying120 rfl inf3 rfl rfl (rowO (mG 0 rfl)) (by first | (rw [st3_len]; omega) | (simp [st3_len]; omega) | (simp_all [st3_len]; omega))) (TO.q (q_ld underlying3 rfl rfl (rowO (mG 0 rfl)) ((st3_get hlti 0 (by decide)).trans (by rw [hq9e]; rfl))) (TO.q (q_ix (i := q9.1) underlying22 inf23 rfl rfl (Sl.o hS) hqn (hvl ▸ hqn)) (TO.q (q_ld underlying23 rfl rfl (Sl.o hS) g1) (TO.q (q_len underlying23 rfl) (TO.qm rfl (TO.nl (T.block ?_))))))))))))))))
  refine T.loopS (fun (x : Nat) ρ O => ∃ (sb : Option Addr) (sc : Nat) (st : List St3) (m : List (Int × Bool)), O = ([rowI sb sc 120 3 (st3C st), mapI KIn Value.bool mp1 m] ++ OO) ∧ x ≤ letN d ∧ i < st.length ∧ st[i]? = some q9 ∧ BfI d al to frm true st i x ∧ SeenM true frm st m ∧ Heads [(0, (.slice nb d.next.length nc)), (1, vI ((frm : Nat) : Int)), (2, .bool true), (3, fal), (4, fto), (10, nS), (12, (.map (some mp1))), (13, (.slice sb st.length sc)), (14, vI ((i : Nat) : Int)), (47, (.slice v1 d.next[q9.1].length c1)), (48, vI (d.next[q9.1].length : Int)), (49, vI ((x : Nat) : Int))] ρ) (fun x => letN d - x) 0 ?_ ?_
  ·exact ⟨sb, sc, st, m, rfl, Nat.zero_le _, hlti, hq9, hB, hM, (.of rfl)⟩
  rintro x ρ O ⟨sb, sc, st, m, rfl, hx, hlti, hq9, hB, hM, hH⟩
  obtain ⟨ρ0, rfl⟩ := hH.elim
  clear hH
  have hst := hB.len
  obtain ⟨b9, hb9⟩ : ∃ b, (lookL ((toN d q9.1 x : Nat) : Int) m).getD false = b := ⟨_, rfl⟩
  refine T.s (T.rg (TO.q (q_lss rfl rfl) (TO.nl (T.s (T.condP rfl (fun hc => ?_) (fun hc => ?_))))))
  ·have hlt50 : x < d.next[q9.1].length := by omega
   have hxl : x < letN d := by omega
   obtain ⟨hto9, _, hxk1, hx1⟩ := hv.toN_lt hqn hxl
   have hx1 : (ints d.next[q9.1])[x]? = some (vI ((toN d q9.1 x : Nat) : Int)) := by rw [ints_get hxk1, hx1]
   refine T.skip (T.s (T.block (T.s (T.rg (TO.qm rfl (TO.q (q_ix (i := x) underlying23 inf3 rfl rfl (Sl.o s1) hxk1 (by rw [List.length_map]; exact hxk1)) (TO.q (q_ld underlying3 rfl rfl (Sl.o s1) hx1) (TO.qa rfl (TO.qa rfl (TO.nl (T.s (T.s (T.rg (TO.qm rfl (TO.qm rfl (TO.q (QT.cast (q_lookup (a := ((toN d q9.1 x : Nat) : Int)) underlying79 inf4 (KeyOk.int underlying3) rfl rfl (mG 1 rfl)) (v' := .bool (decide (b9 = true))) (by rw [← hb9]; cases lookL ((toN d q9.1 x : Nat) : Int) m with | none => rfl | some b => cases b <;> rfl)) ?_))))))))))))))))
   by_cases h57 : b9 = true
   ·refine TO.q (QT.toB (q_move rfl) (decide_eq_true h57)) ?_
    refine TO.pd rfl rfl (TO.pd rfl rfl (TO.pd rfl rfl (TO.pd rfl rfl (TO.q (q_pick1 rfl rfl) (TO.nl ?_)))))
    refine T.cond1 rfl ?_
    refine T.exit ?_
    refine T.rg (TO.q (q_addN (a := x) (b := 1) rfl rfl (by omega)) (TO.qm rfl (TO.nl ?_)))
    exact ⟨x + 1, by omega, ([rowI sb sc 120 3 (st3C st), mapI KIn Value.bool mp1 m] ++ OO), (Sub.pickR [0, 0] [rowI sb sc 120 3 (st3C st), mapI KIn Value.bool mp1 m] OO rfl rfl), sb, sc, st, m, rfl, by omega, hlti, hq9, hB.skip hq9 (fun h => by first | exact absurd h h60 | exact (hM _).1 (hb9.trans h57)), hM, (.of rfl)⟩
   refine TO.q (QT.toB (q_move rfl) (decide_eq_false h57)) (TO.gq rfl rfl (q_move rfl) (TO.gq rfl rfl (q_move rfl) ?_))
   by_cases h60 : al (toN d q9.1 x) = true
   ·have hk60 := CallV.keepR [rowI sb sc 120 3 (st3C st), mapI KIn Value.bool mp1 m] (hal (toN d q9.1 x) hto9)
    refine TO.gd rfl rfl rfl (l_callG hk60 rfl rfl ?_)
    clear hk60
    rintro vr O' ⟨rfl, rfl⟩
    rw [decide_eq_true h60]
    refine TO.gq rfl rfl (q_not rfl) (TO.q (q_pick0 rfl rfl) (TO.nl (T.cond0 rfl (T.skip (T.s ?_)))))
    have hns : ¬ SeenB true frm st (toN d q9.1 x) := fun g => h57 (hb9.symm.trans ((hM _).2 g))
    refine T.rg (TO.qm rfl (TO.qm rfl (TO.l rfl (l_mapPutA (K := KIn) (V := Value.bool) (a := ((toN d q9.1 x : Nat) : Int)) (v := true) 1 underlying79 (KeyOk.int underlying3) (sbY _) rfl rfl rfl rfl ?_))))
    refine TO.nl (T.s (T.rg (TO.qm rfl (TO.qm rfl (TO.qm rfl (TO.qm rfl (TO.q (q_conv_id underlying3 underlying5 rfl (wrap8 (by omega))) (TO.q (q_build (cs := [vI ((toN d q9.1 x : Nat) : Int), vI ((i : Nat) : Int), .int .u8 ((x : Nat) : Int)]) plan120 inf120 (by kernel_rfl)) (TO.l rfl (l_buildSlice (m := 1) (parts := [(0, _)]) (cs := [vI ((toN d q9.1 x : Nat) : Int), vI ((i : Nat) : Int), .int .u8 ((x : Nat) : Int)]) underlying121 inf120 (by decide) (by kernel_rfl) rfl (fun z3 => ?_)))))))))))
    refine TO.l rfl (l_append 1 underlying121 underlying121 inf120 rfl rfl rfl rfl (st3_len st) (by decide) (Src.row (j := 0) rfl (by simp)) (by simp [oneB]) (by omega) (by decide) (by decide) (fun z4 zc5 => ?_))
    refine TO.qa rfl (TO.nl (T.s (T.s (T.rg (TO.qm rfl (TO.qm rfl ?_))))))
    have hk75 := CallV.keepR [rowI (aD z3) 1 120 3 [vI ((toN d q9.1 x : Nat) : Int), vI ((i : Nat) : Int), .int .u8 ((x : Nat) : Int)], rowI z4 zc5 120 3 ((st3C st) ++ [vI ((toN d q9.1 x : Nat) : Int), vI ((i : Nat) : Int), .int .u8 ((x : Nat) : Int)]), mapI KIn Value.bool mp1 (putA ((toN d q9.1 x : Nat) : Int) true m)] (hto (toN d q9.1 x) hto9)
    refine TO.l rfl (l_callG hk75 rfl rfl ?_)
    clear hk75
    rintro vr O' ⟨rfl, rfl⟩
    refine TO.q (q_not rfl) (TO.nl (T.condP (p := ¬ to (toN d q9.1 x) = true) (congrArg Value.bool (by simp)) (fun hc => ?_) (fun hc => ?_)))
    ·have hnto : to (toN d q9.1 x) = false := Bool.eq_false_iff.2 hc
     refine T.exit ?_
     refine T.rg (TO.q (q_addN (a := x) (b := 1) rfl rfl (by omega)) (TO.qm rfl (TO.nl ?_)))
     refine ⟨x + 1, by omega, ([rowI z4 zc5 120 3 ((st3C st) ++ [vI ((toN d q9.1 x : Nat) : Int), vI ((i : Nat) : Int), .int .u8 ((x : Nat) : Int)]), mapI KIn Value.bool mp1 (putA ((toN d q9.1 x : Nat) : Int) true m)] ++ OO), (Sub.pickR [1, 1] [rowI (aD z3) 1 120 3 [vI ((toN d q9.1 x : Nat) : Int), vI ((i : Nat) : Int), .int .u8 ((x : Nat) : Int)], rowI z4 zc5 120 3 ((st3C st) ++ [vI ((toN d q9.1 x : Nat) : Int), vI ((i : Nat) : Int), .int .u8 ((x : Nat) : Int)]), mapI KIn Value.bool mp1 (putA ((toN d q9.1 x : Nat) : Int) true m)] OO rfl rfl), z4, zc5, st ++ [(toN d q9.1 x, (i : Int), x)], putA ((toN d q9.1 x : Nat) : Int) true m, ?_, by omega, by simp; omega, ?_, hB.push hq9 hxl rfl hto9 h60 hns hnto, hM.put hB.pos _ _ _, ?_⟩
     ·rw [st3_snoc]
     ·rw [List.getElem?_append_left hlti]; exact hq9
     ·rw [List.length_append]; exact (.of rfl)
    have hyto : to (toN d q9.1 x) = true := Classical.not_not.1 hc
    obtain ⟨hk1, hk2⟩ := hB.hit hq9 hxl rfl h60
    have hlen9 := hB.lenHit hto9 hns
    refine T.skip (T.s (T.s ?_))
    have hsn : (st ++ [(toN d q9.1 x, (i : Int), x)]).length = st.length + 1 := by simp
    refine T.sub (O' := [rowI z4 zc5 120 3 (st3C (st ++ [(toN d q9.1 x, (i : Int), x)])), mapI KIn Value.bool mp1 (putA ((toN d q9.1 x : Nat) : Int) true m)] ++ OO) (by rw [st3_snoc]; exact Sub.ca [rowI (aD z3) 1 120 3 [vI ((toN d q9.1 x : Nat) : Int), vI ((i : Nat) : Int), .int .u8 ((x : Nat) : Int)]]) ?_
    refine T.rg (TO.qm rfl (TO.q (q_len underlying121 rfl) (TO.q (QT.cast (q_subN (a := st.length + 1) (b := 1) rfl rfl (by omega) (by omega)) (v' := vI ((st.length : Nat) : Int)) (by simp)) (TO.qa rfl (TO.nl (T.block (T.nilRow 5 1 ?_)))))))
    refine T.loopS (fun (kk : Nat) ρ O => ∃ (wb : Option Addr) (wc : Nat) (w : List Nat), O = ([rowI wb wc 5 1 (byts w), rowI z4 zc5 120 3 (st3C (st ++ [(toN d q9.1 x, (i : Int), x)])), mapI KIn Value.bool mp1 (putA ((toN d q9.1 x : Nat) : Int) true m)] ++ OO) ∧ kk ≤ st.length ∧ BkP d al (st ++ [(toN d q9.1 x, (i : Int), x)]) st.length kk w (toN d q9.1 x) ∧ (kk = st.length → w = []) ∧ (kk ≠ st.length → w ≠ []) ∧ Heads [(0, (.slice nb d.next.length nc)), (1, vI ((frm : Nat) : Int)), (2, .bool true), (3, fal), (4, fto), (10, (.slice wb w.length wc)), (12, (.map (some mp1))), (13, (.slice z4 (st.length + 1) zc5)), (14, vI ((i : Nat) : Int)), (15, vI ((x : Nat) : Int)), (16, vI ((toN d q9.1 x : Nat) : Int)), (17, vI ((kk : Nat) : Int)), (47, (.slice v1 d.next[q9.1].length c1)), (48, vI (d.next[q9.1].length : Int)), (49, vI ((x : Nat) : Int))] ρ) (fun kk => kk) st.length ?_ ?_
    ·exact ⟨none, 0, [], rfl, Nat.le_refl _, hk1, fun _ => rfl, fun h => absurd rfl h, (.of rfl)⟩
    rintro kk ρ O ⟨wb, wc, w, rfl, hkk, hbk, hw0, hw1, hH⟩
    obtain ⟨ρ0, rfl⟩ := hH.elim
    clear hH
    refine T.s (T.s (T.rg (TO.qm rfl (TO.q (q_gtr rfl rfl) (TO.nl (T.condP rfl (fun hc => ?_) (fun hc => ?_)))))))
    ·have hlt81 : kk > 0 := by omega
     have hkl : kk < (st ++ [(toN d q9.1 x, (i : Int), x)]).length := by omega
     obtain ⟨j9, q8, hq8, hj9, hbk2, hjk⟩ : ∃ (j9 : Nat) (q8 : St3), (st ++ [(toN d q9.1 x, (i : Int), x)])[kk]? = some q8 ∧ q8.2.1 = (j9 : Int) ∧ BkP d al (st ++ [(toN d q9.1 x, (i : Int), x)]) st.length j9 (w ++ [q8.2.2]) (toN d q9.1 x) ∧ j9 < kk := by
      by_cases e : kk = st.length
      ·subst e
       exact ⟨i, (toN d q9.1 x, (i : Int), x), by rw [List.getElem?_append_right (Nat.le_refl _)]; simp, rfl, by rw [hw0 rfl]; exact hk2, hlti⟩
      ·obtain ⟨j9, q8, a1, a2, a3, a4⟩ := hbk.step hB (by omega) (by omega)
       exact ⟨j9, q8, a1, a2, a3, a4⟩
     rw [List.getElem?_eq_getElem hkl] at hq8
     have hq8e := Option.some.inj hq8
     refine T.skip (T.s (T.block (T.rg (TO.qm rfl (TO.qm rfl (TO.qm rfl (TO.q (q_ixK (i := kk) underlying121 inf120 rfl rfl (rowO (mG 1 rfl)) (hsn ▸ hkl) (by rw [st3_len]; omega)) (TO.q (q_fieldEl underlying120 rfl inf5 rfl rfl (rowO (mG 1 rfl)) (by first | (rw [st3_len]; omega) | (simp [st3_len]; omega) | (simp_all [st3_len]; omega))) (TO.q (q_ld underlying5 rfl rfl (rowO (mG 1 rfl)) ((st3_get hkl 2 (by decide)).trans (by rw [hq8e]; rfl))) (TO.l rfl (l_build1 (v := .int .u8 ((q8.2.2 : Nat) : Int)) underlying26 inf5 rfl rfl rfl (fun z6 => ?_))))))))))))
     refine TO.l rfl (l_append 1 underlying26 underlying26 inf5 rfl rfl rfl rfl (by rw [List.length_map, Nat.mul_one]) (by decide) (Src.row (j := 0) rfl (by simp)) (by simp [oneB]) (by have := hbk.len; omega) (by decide) (by decide) (fun z7 zc8 => ?_))
     refine TO.qa rfl (TO.nl (T.rg (TO.qm rfl (TO.qm rfl (TO.q (q_ixK (i := kk) underlying121 inf120 rfl rfl (rowO (mG 2 rfl)) (hsn ▸ hkl) (by rw [st3_len]; omega)) (TO.q (q_fieldEl underlying120 rfl inf3 rfl rfl (rowO (mG 2 rfl)) (by first | (rw [st3_len]; omega) | (simp [st3_len]; omega) | (simp_all [st3_len]; omega))) (TO.q (q_ld underlying3 rfl rfl (rowO (mG 2 rfl)) ((st3_get hkl 1 (by decide)).trans (by rw [hq8e]; show some (Value.int .i64 q8.2.1) = _; rw [hj9]))) (TO.qa rfl (TO.nl ?_)))))))))
     exact ⟨j9, hjk, ([rowI z7 zc8 5 1 ((byts w) ++ [.int .u8 ((q8.2.2 : Nat) : Int)]), rowI z4 zc5 120 3 (st3C (st ++ [(toN d q9.1 x, (i : Int), x)])), mapI KIn Value.bool mp1 (putA ((toN d q9.1 x : Nat) : Int) true m)] ++ OO), (Sub.pickR [1, 1, 1] [rowI (aD z6) 1 5 1 [.int .u8 ((q8.2.2 : Nat) : Int)], rowI z7 zc8 5 1 ((byts w) ++ [.int .u8 ((q8.2.2 : Nat) : Int)]), rowI z4 zc5 120 3 (st3C (st ++ [(toN d q9.1 x, (i : Int), x)])), mapI KIn Value.bool mp1 (putA ((toN d q9.1 x : Nat) : Int) true m)] OO rfl rfl), z7, zc8, w ++ [q8.2.2], by rw [show byts (w ++ [q8.2.2]) = byts w ++ [.int .u8 ((q8.2.2 : Nat) : Int)] by simp], by omega, hbk2, fun h => absurd h (by omega), fun _ => by simp, by rw [List.length_append]; exact (.of rfl)⟩
    have hge81 : ¬ kk > 0 := by omega
    refine T.exit ?_
    refine T.s (T.rg (TO.qm rfl ?_))
    have hk96 := CallT.under (A := [rowI wb wc 5 1 (byts w)]) (B := [rowI z4 zc5 120 3 (st3C (st ++ [(toN d q9.1 x, (i : Int), x)])), mapI KIn Value.bool mp1 (putA ((toN d q9.1 x : Nat) : Int) true m)] ++ OO) (O := ([rowI wb wc 5 1 (byts w), rowI z4 zc5 120 3 (st3C (st ++ [(toN d q9.1 x, (i : Int), x)])), mapI KIn Value.bool mp1 (putA ((toN d q9.1 x : Nat) : Int) true m)] ++ OO)) (reverseB base wb wc wc w (by have := hbk.len; omega)) (Sub.ca [])
    refine TO.l rfl (l_call ent97 hk96 rfl ?_)
    clear hk96
    rintro vr O' ⟨A1, rfl, rfl⟩
    refine TO.nl (T.s (T.rg (TO.qm rfl (TO.qm rfl (TO.qa rfl (TO.qa rfl (TO.nl (T.ret (Res.drop ?_)))))))))
    refine Res.two (.slice wb w.length wc) (vI ((toN d q9.1 x : Nat) : Int)) Tryd.results87 rfl rfl ?_
    have hk0 : kk = 0 := by omega
    subst hk0
    have hpr := hbk.done hB hlen9 (hw1 (by have := hB.pos; omega)) hyto
    exact ⟨rowI wb wc 5 1 (byts w.reverse) :: OO, Sub.ca [rowI z4 zc5 120 3 (st3C (st ++ [(toN d q9.1 x, (i : Int), x)])), mapI KIn Value.bool mp1 (putA ((toN d q9.1 x : Nat) : Int) true m)], w.reverse, _, wb, wc, hpr, by rw [List.length_reverse], rfl⟩
   have hk60 := CallV.keepR [rowI sb sc 120 3 (st3C st), mapI KIn Value.bool mp1 m] (hal (toN d q9.1 x) hto9)
   refine TO.gd rfl rfl rfl (l_callG hk60 rfl rfl ?_)
   clear hk60
   rintro vr O' ⟨rfl, rfl⟩
   rw [decide_eq_false h60]
   refine TO.gq rfl rfl (q_not rfl) (TO.q (q_pick0 rfl rfl) (TO.nl ?_))
   refine T.cond1 rfl ?_
   refine T.exit ?_
   refine T.rg (TO.q (q_addN (a := x) (b := 1) rfl rfl (by omega)) (TO.qm rfl (TO.nl ?_)))
   exact ⟨x + 1, by omega, ([rowI sb sc 120 3 (st3C st), mapI KIn Value.bool mp1 m] ++ OO), (Sub.pickR [0, 0] [rowI sb sc 120 3 (st3C st), mapI KIn Value.bool mp1 m] OO rfl rfl), sb, sc, st, m, rfl, by omega, hlti, hq9, hB.skip hq9 (fun h => by first | exact absurd h h60 | exact (hM _).1 (hb9.trans h57)), hM, (.of rfl)⟩
  have hge50 : ¬ x < d.next[q9.1].length := by omega
  refine T.exit ?_
  refine T.rg (TO.qm rfl (TO.q (q_addN (a := i) (b := 1) rfl rfl (by omega)) (TO.qa rfl (TO.nl ?_))))
  have hxe : x = letN d := by omega
  subst hxe
  exact ⟨i + 1, by omega, ([rowI sb sc 120 3 (st3C st), mapI KIn Value.bool mp1 m] ++ OO), (Sub.pickR [0, 0] [rowI sb sc 120 3 (st3C st), mapI KIn Value.bool mp1 m] OO rfl rfl), sb, sc, st, m, rfl, by omega, hB.next, hM, (.of rfl)⟩
 have hge37 : ¬ i < st.length := by omega
 refine T.exit ?_
 refine T.s (T.rg (TO.qa rfl (TO.qa rfl (TO.nl (T.ret (Res.drop ?_))))))
 refine Res.two nS (vI (-1)) Tryd.results87 rfl rfl ?_
 have hie : i = st.length := by omega
 subst hie
 obtain ⟨Q, t, e1, e2, e3⟩ := hex
 exact (hB.none e1 e2 e3).elim
theorem pathF (base : World) [Tab Tryd.prog base] (d : DFA) (nb : Option Addr) (nc : Nat) (vs : List Value) (hS : Sl base nb vs) (hr : RowsR base vs d.next) (hv : Val d) (hn : d.next.length ≤ 4096) (hw6 : letN d ≤ 64) (OO : List Lx.Item) (al to : Nat → Bool) (fal fto : Value)
  (hal : ∀ t, t < d.next.length → CallV Tryd.prog base fal [vI ((t : Nat) : Int)] OO (fun v O' => v = .bool (decide (al t = true)) ∧ O' = OO)) (hto : ∀ t, t < d.next.length → CallV Tryd.prog base fto [vI ((t : Nat) : Int)] OO (fun v O' => v = .bool (decide (to t = true)) ∧ O' = OO))
  (frm : Nat) (hfn : frm < d.next.length) (hex : ∃ (Q : Nat → Prop) (t : Nat), (∀ v, Q v → al v = true) ∧ to t = true ∧ ((false = false ∧ Rch (InS (DE d) Q) frm t) ∨ ∃ c, InS (DE d) Q frm c ∧ Rch (InS (DE d) Q) c t)) :
  CallT Tryd.prog base 87 [.slice nb d.next.length nc, vI ((frm : Nat) : Int), .bool false, fal, fto] OO (fun v O' => ∃ w t b c, PathR d al to frm false w t ∧ v = .tuple #[.slice b w.length c, vI ((t : Nat) : Int)] ∧ O' = rowI b c 5 1 (byts w) :: OO) := by
 refine CallT.enter func87 rfl ntmps87 rfl ?_
 have hvl := hr.1
 have hwd : letN d ≤ 64 := hw6
 refine T.s (T.rg (TO.qa rfl (TO.qa rfl (TO.nl (T.s (T.s (T.rg (TO.qm rfl (TO.q (q_not rfl) (TO.qm rfl (TO.gq rfl rfl (q_move rfl) (TO.gq rfl rfl (q_move rfl) ?_))))))))))))
 by_cases h23 : to frm = true
 ·have hk23 := hto frm hfn
  refine TO.gd rfl rfl rfl (l_callG hk23 rfl rfl ?_)
  clear hk23
  rintro vr O' ⟨rfl, e9⟩
  rw [decide_eq_true h23, e9]
  clear e9
  refine TO.q (q_pick1 rfl rfl) (TO.nl ?_)
  refine T.cond1 rfl ?_
  refine T.s (T.nilRow 5 1 ?_)
  refine T.rg (TO.qm rfl (TO.qa rfl (TO.qa rfl (TO.nl (T.ret (Res.drop ?_))))))
  refine Res.two nS (vI ((frm : Nat) : Int)) Tryd.results87 rfl rfl ?_
  exact ⟨rowI none 0 5 1 [] :: OO, Sub.rf, [], frm, none, 0, pathR_nil h23, rfl, rfl⟩
 have hk23 := hto frm hfn
 refine TO.gd rfl rfl rfl (l_callG hk23 rfl rfl ?_)
 clear hk23
 rintro vr O' ⟨rfl, e9⟩
 rw [decide_eq_false h23, e9]
 clear e9
 refine TO.q (q_pick1 rfl rfl) (TO.nl (T.cond0 rfl (T.skip (T.s (T.rg (TO.l rfl (l_makeMap KIn Value.bool (fun mp1 => ?_))))))))
 refine TO.qm rfl (TO.qm rfl (TO.q (q_not rfl) (TO.l rfl (l_mapInsert (a := ((frm : Nat) : Int)) (v := !false) 0 underlying79 (KeyOk.int underlying3) rfl rfl rfl rfl (by simp) ?_))))
 refine TO.qm rfl (TO.qa rfl (TO.nl (T.s (T.rg (TO.qm rfl (TO.q (q_build (cs := [vI ((frm : Nat) : Int), vI (-1), .int .u8 0]) plan120 inf120 (by kernel_rfl)) (TO.l rfl (l_buildSlice (m := 1) (parts := [(0, _)]) (cs := [vI ((frm : Nat) : Int), vI (-1), .int .u8 0]) underlying121 inf120 (by decide) (by kernel_rfl) rfl (fun z2 => ?_)))))))))
 refine TO.qa rfl (TO.nl (T.s (T.s (T.rg (TO.qa rfl (TO.nl (T.block ?_)))))))
 have hnt : false = false → to frm = false := fun h => by first | exact absurd h (by decide) | exact Bool.eq_false_iff.2 h23
 refine T.loopS (fun (i : Nat) ρ O => ∃ (sb : Option Addr) (sc : Nat) (st : List St3) (m : List (Int × Bool)), O = ([rowI sb sc 120 3 (st3C st), mapI KIn Value.bool mp1 m] ++ OO) ∧ i ≤ st.length ∧ BfI d al to frm false st i 0 ∧ SeenM false frm st m ∧ Heads [(0, (.slice nb d.next.length nc)), (1, vI ((frm : Nat) : Int)), (2, .bool false), (3, fal), (4, fto), (10, nS), (12, (.map (some mp1))), (13, (.slice sb st.length sc)), (14, vI ((i : Nat) : Int))] ρ) (fun i => d.next.length + 1 - i) 0 ?_ ?_
 ·exact ⟨(aD z2), 1, [(frm, -1, 0)], [(((frm : Nat) : Int), !false)], rfl, Nat.zero_le _, BfI.start hfn hnt, SeenM.start false frm, (.of rfl)⟩
 rintro i ρ O ⟨sb, sc, st, m, rfl, hi, hB, hM, hH⟩
 obtain ⟨ρ0, rfl⟩ := hH.elim
 clear hH
 have hst := hB.len
 refine T.s (T.s (T.rg (TO.qm rfl (TO.qm rfl (TO.q (q_len underlying121 rfl) (TO.q (q_lss rfl rfl) (TO.nl (T.condP rfl (fun hc => ?_) (fun hc => ?_)))))))))
 ·have hlt37 : i < st.length := by omega
  have hlti : i < st.length := by omega
  obtain ⟨q9, hq9e⟩ : ∃ q, st[i] = q := ⟨_, rfl⟩
  have hq9 : st[i]? = some q9 := by rw [List.getElem?_eq_getElem hlti, hq9e]
  have hqn : q9.1 < d.next.length := hB.lt _ (hq9e ▸ List.getElem_mem hlti)
  obtain ⟨v1, c1, g1, s1⟩ := hr.get hqn
  have hr1 : d.next[q9.1].length = letN d := hv.len _ (List.getElem_mem hqn)
  refine T.skip (T.s (T.block (T.s (T.rg (TO.qm rfl (TO.qm rfl (TO.qm rfl (TO.q (q_ixK (i := i) underlying121 inf120 rfl rfl (rowO (mG 0 rfl)) (by first | assumption | omega | (simp; omega) | simp_all) (by first | (rw [st3_len]; omega) | (simp [st3_len]; omega) | (simp_all [st3_len]; omega))) (TO.q (q_fieldEl underlying120 rfl inf3 rfl rfl (rowO (mG 0 rfl)) (by first | (rw [st3_len]; omega) | (simp [st3_len]; omega) | (simp_all [st3_len]; omega))) (TO.q (q_ld underlying3 rfl rfl (rowO (mG 0 rfl)) ((st3_get hlti 0 (by decide)).trans (by rw [hq9e]; rfl))) (TO.q (q_ix (i := q9.1) underlying22 inf23 rfl rfl (Sl.o hS) hqn (hvl ▸ hqn)) (TO.q (q_ld underlying23 rfl rfl (Sl.o hS) g1) (TO.q (q_len underlying23 rfl) (TO.qm rfl (TO.nl (T.block ?_))))))))))))))))
  refine T.loopS (fun (x : Nat) ρ O => ∃ (sb : Option Addr) (sc : Nat) (st : List St3) (m : List (Int × Bool)), O = ([rowI sb sc 120 3 (st3C st), mapI KIn Value.bool mp1 m] ++ OO) ∧ x ≤ letN d ∧ i < st.length ∧ st[i]? = some q9 ∧ BfI d al to frm false st i x ∧ SeenM false frm st m ∧ Heads [(0, (.slice nb d.next.length nc)), (1, vI ((frm : Nat) : Int)), (2, .bool false), (3, fal), (4, fto), (10, nS), (12, (.map (some mp1))), (13, (.slice sb st.length sc)), (14, vI ((i : Nat) : Int)), (47, (.slice v1 d.next[q9.1].length c1)), (48, vI (d.next[q9.1].length : Int)), (49, vI ((x : Nat) : Int))] ρ) (fun x => letN d - x) 0 ?_ ?_
  ·exact ⟨sb, sc, st, m, rfl, Nat.zero_le _, hlti, hq9, hB, hM, (.of rfl)⟩
  rintro x ρ O ⟨sb, sc, st, m, rfl, hx, hlti, hq9, hB, hM, hH⟩
  obtain ⟨ρ0, rfl⟩ := hH.elim
  clear hH
  have hst := hB.len
  obtain ⟨b9, hb9⟩ : ∃ b, (lookL ((toN d q9.1 x : Nat) : Int) m).getD false = b := ⟨_, rfl⟩
  refine T.s (T.rg (TO.q (q_lss rfl rfl) (TO.nl (T.s (T.condP rfl (fun hc => ?_) (fun hc => ?_))))))
  ·have hlt50 : x < d.next[q9.1].length := by omega
   have hxl : x < letN d := by omega
   obtain ⟨hto9, _, hxk1, hx1⟩ := hv.toN_lt hqn hxl
   have hx1 : (ints d.next[q9.1])[x]? = some (vI ((toN d q9.1 x : Nat) : Int)) := by rw [ints_get hxk1, hx1]
   refine T.skip (T.s (T.block (T.s (T.rg (TO.qm rfl (TO.q (q_ix (i := x) underlying23 inf3 rfl rfl (Sl.o s1) hxk1 (by rw [List.length_map]; exact hxk1)) (TO.q (q_ld underlying3 rfl rfl (Sl.o s1) hx1) (TO.qa rfl (TO.qa rfl (TO.nl (T.s (T.s (T.rg (TO.qm rfl (TO.qm rfl (TO.q (QT.cast (q_lookup (a := ((toN d q9.1 x : Nat) : Int)) underlying79 inf4 (KeyOk.int underlying3) rfl rfl (mG 1 rfl)) (v' := .bool (decide (b9 = true))) (by rw [← hb9]; cases lookL ((toN d q9.1 x : Nat) : Int) m with | none => rfl | some b => cases b <;> rfl)) ?_))))))))))))))))
   by_cases h57 : b9 = true
   ·refine TO.q (QT.toB (q_move rfl) (decide_eq_true h57)) ?_
    refine TO.pd rfl rfl (TO.pd rfl rfl (TO.pd rfl rfl (TO.pd rfl rfl (TO.q (q_pick1 rfl rfl) (TO.nl ?_)))))
    refine T.cond1 rfl ?_
    refine T.exit ?_
    refine T.rg (TO.q (q_addN (a := x) (b := 1) rfl rfl (by omega)) (TO.qm rfl (TO.nl ?_)))
    exact ⟨x + 1, by omega, ([rowI sb sc 120 3 (st3C st), mapI KIn Value.bool mp1 m] ++ OO), (Sub.pickR [0, 0] [rowI sb sc 120 3 (st3C st), mapI KIn Value.bool mp1 m] OO rfl rfl), sb, sc, st, m, rfl, by omega, hlti, hq9, hB.skip hq9 (fun h => by first | exact absurd h h60 | exact (hM _).1 (hb9.trans h57)), hM, (.of rfl)⟩
   refine TO.q (QT.toB (q_move rfl) (decide_eq_false h57)) (TO.gq rfl rfl (q_move rfl) (TO.gq rfl rfl (q_move rfl) ?_))
   by_cases h60 : al (toN d q9.1 x) = true
   ·have hk60 := CallV.keepR [rowI sb sc 120 3 (st3C st), mapI KIn Value.bool mp1 m] (hal (toN d q9.1 x) hto9)
    refine TO.gd rfl rfl rfl (l_callG hk60 rfl rfl ?_)
    clear hk60
    rintro vr O' ⟨rfl, rfl⟩
    rw [decide_eq_true h60]
    refine TO.gq rfl rfl (q_not rfl) (TO.q (q_pick0 rfl rfl) (TO.nl (T.cond0 rfl (T.skip (T.s ?_)))))
    have hns : ¬ SeenB false frm st (toN d q9.1 x) := fun g => h57 (hb9.symm.trans ((hM _).2 g))
    refine T.rg (TO.qm rfl (TO.qm rfl (TO.l rfl (l_mapPutA (K := KIn) (V := Value.bool) (a := ((toN d q9.1 x : Nat) : Int)) (v := true) 1 underlying79 (KeyOk.int underlying3) (sbY _) rfl rfl rfl rfl ?_))))
    refine TO.nl (T.s (T.rg (TO.qm rfl (TO.qm rfl (TO.qm rfl (TO.qm rfl (TO.q (q_conv_id underlying3 underlying5 rfl (wrap8 (by omega))) (TO.q (q_build (cs := [vI ((toN d q9.1 x : Nat) : Int), vI ((i : Nat) : Int), .int .u8 ((x : Nat) : Int)]) plan120 inf120 (by kernel_rfl)) (TO.l rfl (l_buildSlice (m := 1) (parts := [(0, _)]) (cs := [vI ((toN d q9.1 x : Nat) : Int), vI ((i : Nat) : Int), .int .u8 ((x : Nat) : Int)]) underlying121 inf120 (by decide) (by kernel_rfl) rfl (fun z3 => ?_)))))))))))
    refine TO.l rfl (l_append 1 underlying121 underlying121 inf120 rfl rfl rfl rfl (st3_len st) (by decide) (Src.row (j := 0) rfl (by simp)) (by simp [oneB]) (by omega) (by decide) (by decide) (fun z4 zc5 => ?_))
    refine TO.qa rfl (TO.nl (T.s (T.s (T.rg (TO.qm rfl (TO.qm rfl ?_))))))
    have hk75 := CallV.keepR [rowI (aD z3) 1 120 3 [vI ((toN d q9.1 x : Nat) : Int), vI ((i : Nat) : Int), .int .u8 ((x : Nat) : Int)], rowI z4 zc5 120 3 ((st3C st) ++ [vI ((toN d q9.1 x : Nat) : Int), vI ((i : Nat) : Int), .int .u8 ((x : Nat) : Int)]), mapI KIn Value.bool mp1 (putA ((toN d q9.1 x : Nat) : Int) true m)] (hto (toN d q9.1 x) hto9)
    refine TO.l rfl (l_callG hk75 rfl rfl ?_)
    clear hk75
    rintro vr O' ⟨rfl, rfl⟩
    refine TO.q (q_not rfl) (TO.nl (T.condP (p := ¬ to (toN d q9.1 x) = true) (congrArg Value.bool (by simp)) (fun hc => ?_) (fun hc => ?_)))
    ·have hnto : to (toN d q9.1 x) = false := Bool.eq_false_iff.2 hc
     refine T.exit ?_
     refine T.rg (TO.q (q_addN (a := x) (b := 1) rfl rfl (by omega)) (TO.qm rfl (TO.nl ?_)))
     refine ⟨x + 1, by omega, ([rowI z4 zc5 120 3 ((st3C st) ++ [vI ((toN d q9.1 x : Nat) : Int), vI ((i : Nat) : Int), .int .u8 ((x : Nat) : Int)]), mapI KIn Value.bool mp1 (putA ((toN d q9.1 x : Nat) : Int) true m)] ++ OO), (Sub.pickR [1, 1] [rowI (aD z3) 1 120 3 [vI ((toN d q9.1 x : Nat) : Int), vI ((i : Nat) : Int), .int .u8 ((x : Nat) : Int)], rowI z4 zc5 120 3 ((st3C st) ++ [vI ((toN d q9.1 x : Nat) : Int), vI ((i : Nat) : Int), .int .u8 ((x : Nat) : Int)]), mapI KIn Value.bool mp1 (putA ((toN d q9.1 x : Nat) : Int) true m)] OO rfl rfl), z4, zc5, st ++ [(toN d q9.1 x, (i : Int), x)], putA ((toN d q9.1 x : Nat) : Int) true m, ?_, by omega, by simp; omega, ?_, hB.push hq9 hxl rfl hto9 h60 hns hnto, hM.put hB.pos _ _ _, ?_⟩
     ·rw [st3_snoc]
     ·rw [List.getElem?_append_left hlti]; exact hq9
     ·rw [List.length_append]; exact (.of rfl)
    have hyto : to (toN d q9.1 x) = true := Classical.not_not.1 hc
    obtain ⟨hk1, hk2⟩ := hB.hit hq9 hxl rfl h60
    have hlen9 := hB.lenHit hto9 hns
    refine T.skip (T.s (T.s ?_))
    have hsn : (st ++ [(toN d q9.1 x, (i : Int), x)]).length = st.length + 1 := by simp
    refine T.sub (O' := [rowI z4 zc5 120 3 (st3C (st ++ [(toN d q9.1 x, (i : Int), x)])), mapI KIn Value.bool mp1 (putA ((toN d q9.1 x : Nat) : Int) true m)] ++ OO) (by rw [st3_snoc]; exact Sub.ca [rowI (aD z3) 1 120 3 [vI ((toN d q9.1 x : Nat) : Int), vI ((i : Nat) : Int), .int .u8 ((x : Nat) : Int)]]) ?_
    refine T.rg (TO.qm rfl (TO.q (q_len underlying121 rfl) (TO.q (QT.cast (q_subN (a := st.length + 1) (b := 1) rfl rfl (by omega) (by omega)) (v' := vI ((st.length : Nat) : Int)) (by simp)) (TO.qa rfl (TO.nl (T.block (T.nilRow 5 1 ?_)))))))
    refine T.loopS (fun (kk : Nat) ρ O => ∃ (wb : Option Addr) (wc : Nat) (w : List Nat), O = ([rowI wb wc 5 1 (byts w), rowI z4 zc5 120 3 (st3C (st ++ [(toN d q9.1 x, (i : Int), x)])), mapI KIn Value.bool mp1 (putA ((toN d q9.1 x : Nat) : Int) true m)] ++ OO) ∧ kk ≤ st.length ∧ BkP d al (st ++ [(toN d q9.1 x, (i : Int), x)]) st.length kk w (toN d q9.1 x) ∧ (kk = st.length → w = []) ∧ (kk ≠ st.length → w ≠ []) ∧ Heads [(0, (.slice nb d.next.length nc)), (1, vI ((frm : Nat) : Int)), (2, .bool false), (3, fal), (4, fto), (10, (.slice wb w.length wc)), (12, (.map (some mp1))), (13, (.slice z4 (st.length + 1) zc5)), (14, vI ((i : Nat) : Int)), (15, vI ((x : Nat) : Int)), (16, vI ((toN d q9.1 x : Nat) : Int)), (17, vI ((kk : Nat) : Int)), (47, (.slice v1 d.next[q9.1].length c1)), (48, vI (d.next[q9.1].length : Int)), (49, vI ((x : Nat) : Int))] ρ) (fun kk => kk) st.length ?_ ?_
    ·exact ⟨none, 0, [], rfl, Nat.le_refl _, hk1, fun _ => rfl, fun h => absurd rfl h, (.of rfl)⟩
    rintro kk ρ O ⟨wb, wc, w, rfl, hkk, hbk, hw0, hw1, hH⟩
    obtain ⟨ρ0, rfl⟩ := hH.elim
    clear hH
    refine T.s (T.s (T.rg (TO.qm rfl (TO.q (q_gtr rfl rfl) (TO.nl (T.condP rfl (fun hc => ?_) (fun hc => ?_)))))))
    ·have hlt81 : kk > 0 := by omega
     have hkl : kk < (st ++ [(toN d q9.1 x, (i : Int), x)]).length := by omega
     obtain ⟨j9, q8, hq8, hj9, hbk2, hjk⟩ : ∃ (j9 : Nat) (q8 : St3), (st ++ [(toN d q9.1 x, (i : Int), x)])[kk]? = some q8 ∧ q8.2.1 = (j9 : Int) ∧ BkP d al (st ++ [(toN d q9.1 x, (i : Int), x)]) st.length j9 (w ++ [q8.2.2]) (toN d q9.1 x) ∧ j9 < kk := by
      by_cases e : kk = st.length
      ·subst e
       exact ⟨i, (toN d q9.1 x, (i : Int), x), by rw [List.getElem?_append_right (Nat.le_refl _)]; simp, rfl, by rw [hw0 rfl]; exact hk2, hlti⟩
      ·obtain ⟨j9, q8, a1, a2, a3, a4⟩ := hbk.step hB (by omega) (by omega)
       exact ⟨j9, q8, a1, a2, a3, a4⟩
     rw [List.getElem?_eq_getElem hkl] at hq8
     have hq8e := Option.some.inj hq8
     refine T.skip (T.s (T.block (T.rg (TO.qm rfl (TO.qm rfl (TO.qm rfl (TO.q (q_ixK (i := kk) underlying121 inf120 rfl rfl (rowO (mG 1 rfl)) (hsn ▸ hkl) (by rw [st3_len]; omega)) (TO.q (q_fieldEl underlying120 rfl inf5 rfl rfl (rowO (mG 1 rfl)) (by first | (rw [st3_len]; omega) | (simp [st3_len]; omega) | (simp_all [st3_len]; omega))) (TO.q (q_ld underlying5 rfl rfl (rowO (mG 1 rfl)) ((st3_get hkl 2 (by decide)).trans (by rw [hq8e]; rfl))) (TO.l rfl (l_build1 (v := .int .u8 ((q8.2.2 : Nat) : Int)) underlying26 inf5 rfl rfl rfl (fun z6 => ?_))))))))))))
     refine TO.l rfl (l_append 1 underlying26 underlying26 inf5 rfl rfl rfl rfl (by rw [List.length_map, Nat.mul_one]) (by decide) (Src.row (j := 0) rfl (by simp)) (by simp [oneB]) (by have := hbk.len; omega) (by decide) (by decide) (fun z7 zc8 => ?_))
     refine TO.qa rfl (TO.nl (T.rg (TO.qm rfl (TO.qm rfl (TO.q (q_ixK (i := kk) underlying121 inf120 rfl rfl (rowO (mG 2 rfl)) (hsn ▸ hkl) (by rw [st3_len]; omega)) (TO.q (q_fieldEl underlying120 rfl inf3 rfl rfl (rowO (mG 2 rfl)) (by first | (rw [st3_len]; omega) | (simp [st3_len]; omega) | (simp_all [st3_len]; omega))) (TO.q (q_ld underlying3 rfl rfl (rowO (mG 2 rfl)) ((st3_get hkl 1 (by decide)).trans (by rw [hq8e]; show some (Value.int .i64 q8.2.1) = _; rw [hj9]))) (TO.qa rfl (TO.nl ?_)))))))))
     exact ⟨j9, hjk, ([rowI z7 zc8 5 1 ((byts w) ++ [.int .u8 ((q8.2.2 : Nat) : Int)]), rowI z4 zc5 120 3 (st3C (st ++ [(toN d q9.1 x, (i : Int), x)])), mapI KIn Value.bool mp1 (putA ((toN d q9.1 x : Nat) : Int) true m)] ++ OO), (Sub.pickR [1, 1, 1] [rowI (aD z6) 1 5 1 [.int .u8 ((q8.2.2 : Nat) : Int)], rowI z7 zc8 5 1 ((byts w) ++ [.int .u8 ((q8.2.2 : Nat) : Int)]), rowI z4 zc5 120 3 (st3C (st ++ [(toN d q9.1 x, (i : Int), x)])), mapI KIn Value.bool mp1 (putA ((toN d q9.1 x : Nat) : Int) true m)] OO rfl rfl), z7, zc8, w ++ [q8.2.2], by rw [show byts (w ++ [q8.2.2]) = byts w ++ [.int .u8 ((q8.2.2 : Nat) : Int)] by simp], by omega, hbk2, fun h => absurd h (by omega), fun _ => by simp, by rw [List.length_append]; exact (.of rfl)⟩
    have hge81 : ¬ kk > 0 := by omega
    refine T.exit ?_
    refine T.s (T.rg (TO.qm rfl ?_))
    have hk96 := CallT.under (A := [rowI wb wc 5 1 (byts w)]) (B := [rowI z4 zc5 120 3 (st3C (st ++ [(toN d q9.1 x, (i : Int), x)])), mapI KIn Value.bool mp1 (putA ((toN d q9.1 x : Nat) : Int) true m)] ++ OO) (O := ([rowI wb wc 5 1 (byts w), rowI z4 zc5 120 3 (st3C (st ++ [(toN d q9.1 x, (i : Int), x)])), mapI KIn Value.bool mp1 (putA ((toN d q9.1 x : Nat) : Int) true m)] ++ OO)) (reverseB base wb wc wc w (by have := hbk.len; omega)) (Sub.ca [])
    refine TO.l rfl (l_call ent97 hk96 rfl ?_)
    clear hk96
    rintro vr O' ⟨A1, rfl, rfl⟩
    refine TO.nl (T.s (T.rg (TO.qm rfl (TO.qm rfl (TO.qa rfl (TO.qa rfl (TO.nl (T.ret (Res.drop ?_)))))))))
    refine Res.two (.slice wb w.length wc) (vI ((toN d q9.1 x : Nat) : Int)) Tryd.results87 rfl rfl ?_
    have hk0 : kk = 0 := by omega
    subst hk0
    have hpr := hbk.done hB hlen9 (hw1 (by have := hB.pos; omega)) hyto
    exact ⟨rowI wb wc 5 1 (byts w.reverse) :: OO, Sub.ca [rowI z4 zc5 120 3 (st3C (st ++ [(toN d q9.1 x, (i : Int), x)])), mapI KIn Value.bool mp1 (putA ((toN d q9.1 x : Nat) : Int) true m)], w.reverse, _, wb, wc, hpr, by rw [List.length_reverse], rfl⟩
   have hk60 := CallV.keepR [rowI sb sc 120 3 (st3C st), mapI KIn Value.bool mp1 m] (hal (toN d q9.1 x) hto9)
   refine TO.gd rfl rfl rfl (l_callG hk60 rfl rfl ?_)
   clear hk60
   rintro vr O' ⟨rfl, rfl⟩
   rw [decide_eq_false h60]
   refine TO.gq rfl rfl (q_not rfl) (TO.q (q_pick0 rfl rfl) (TO.nl ?_))
   refine T.cond1 rfl ?_
   refine T.exit ?_
   refine T.rg (TO.q (q_addN (a := x) (b := 1) rfl rfl (by omega)) (TO.qm rfl (TO.nl ?_)))
   exact ⟨x + 1, by omega, ([rowI sb sc 120 3 (st3C st), mapI KIn Value.bool mp1 m] ++ OO), (Sub.pickR [0, 0] [rowI sb sc 120 3 (st3C st), mapI KIn Value.bool mp1 m] OO rfl rfl), sb, sc, st, m, rfl, by omega, hlti, hq9, hB.skip hq9 (fun h => by first | exact absurd h h60 | exact (hM _).1 (hb9.trans h57)), hM, (.of rfl)⟩
  have hge50 : ¬ x < d.next[q9.1].length := by omega
  refine T.exit ?_
  refine T.rg (TO.qm rfl (TO.q (q_addN (a := i) (b := 1) rfl rfl (by omega)) (TO.qa rfl (TO.nl ?_))))
  have hxe : x = letN d := by omega
  subst hxe
  exact ⟨i + 1, by omega, ([rowI sb sc 120 3 (st3C st), mapI KIn Value.bool mp1 m] ++ OO), (Sub.pickR [0, 0] [rowI sb sc 120 3 (st3C st), mapI KIn Value.bool mp1 m] OO rfl rfl), sb, sc, st, m, rfl, by omega, hB.next, hM, (.of rfl)⟩
 have hge37 : ¬ i < st.length := by omega
 refine T.exit ?_
 refine T.s (T.rg (TO.qa rfl (TO.qa rfl (TO.nl (T.ret (Res.drop ?_))))))
 refine Res.two nS (vI (-1)) Tryd.results87 rfl rfl ?_
 have hie : i = st.length := by omega
 subst hie
 obtain ⟨Q, t, e1, e2, e3⟩ := hex
 exact (hB.none e1 e2 e3).elim
end Go.Proofs.YtnikhiohindggaaDoor


namespace Go.Proofs.YtnikhiohindggaaDoor
open Go.Lx Go.RowKit _root_.Go.Proofs.Tryd
theorem fullF (w : World) [Tab Tryd.prog w] (l : La) (pb lb : Option Addr) (pc lc : Nat) (h0 : 0 < l.loop.length) :
  PureT Tryd.prog 98 [.agg (laCells l pb pc lb lc).toArray] w fun z N => z = .agg (laCells l pb pc lb lc).toArray ∧ N = [] := by
 refine CallT.enter func98 rfl ntmps98 rfl ?_
 refine T.s (T.rg (TO.l rfl (l_box (v := (.agg (laCells l pb pc lb lc).toArray)) (cs := (laCells l pb pc lb lc)) rfl rfl (fun bx1 => ?_))))
 refine TO.l rfl (l_alloc inf28 rfl (fun bx2 => ?_))
 refine TO.nl (T.s (T.s (T.rg (TO.q (q_fa underlying28 rfl inf26 rfl rfl) (TO.q (q_lb 1 underlying26 rfl rfl rfl rfl) (TO.q (q_len underlying26 rfl) (TO.q (QT.toB (q_eql rfl rfl) (decide_eq_false (show ¬ ((l.loop.length : Int) = 0) by omega))) (TO.nl (T.cond0 rfl (T.skip (T.s (T.rg (TO.q (q_la 1 underlying28 rfl inf28 rfl rfl rfl) (TO.l rfl (l_sb (v := (.agg (laCells l pb pc lb lc).toArray)) (vs := (laCells l pb pc lb lc)) 0 inf28 rfl rfl rfl rfl rfl rfl (by simp [putL]) ?_)))))))))))))))
 refine TO.nl (T.ret (Res.drop ?_))
 refine Res.cell1 (i := 0) Tryd.results98 underlying28 rfl inf28 rfl rfl rfl ?_
 exact ⟨[], Sub.of (List.nil_sublist _), rfl, rfl⟩
end Go.Proofs.YtnikhiohindggaaDoor


namespace Go.Proofs.YtnikhiohindggaaDoor
open Go.Lx Go.RowKit _root_.Go.Proofs.Tryd
theorem lb_step {xs fl : List Nat} {i k : Nat} (hfl : fl.length = xs.length + 1) (hi : i < xs.length) (h : ∀ j, 1 ≤ j → j ≤ i → LB (fun i => xs.getD i 0) j (fl.getD j 0)) (hn : LB (fun i => xs.getD i 0) (i + 1) k) (j : Nat) (h1 : 1 ≤ j) (h2 : j ≤ i + 1) : LB (fun i => xs.getD i 0) j ((fl.set (i + 1) k).getD j 0) := by
 have e := fn_set (a := k) (l := fl) (v := i + 1) (by omega) j
 rw [show (fl.set (i + 1) k).getD j 0 = fn (fl.set (i + 1) k) j from rfl, e]
 by_cases hj : j = i + 1
 ·subst hj; rw [if_pos rfl]; exact hn
 ·rw [if_neg hj]; exact h j h1 (by omega)
theorem rootF (w : World) [Tab Tryd.prog w] (b : Option Addr) (c : Nat) (xs : List Nat) (hS : Sl w b (byts xs)) (h0 : 0 < xs.length) (hc : xs.length ≤ c) (hb : xs.length ≤ 1000000) :
  PureT Tryd.prog 99 [.slice b xs.length c] w fun v N => ∃ q, v = .slice b q c ∧ N = [] ∧ Root (fun i => xs.getD i 0) xs.length q := by
 refine CallT.enter func99 rfl ntmps99 rfl ?_
 refine T.s (T.rg (TO.qa rfl (TO.nl (T.s (T.rg (TO.qm rfl (TO.q (q_len underlying26 rfl) (TO.q (q_addN (a := xs.length) (b := 1) rfl rfl (by omega)) (TO.l rfl (l_makeSlice (m := xs.length + 1) underlying23 inf3 rfl rfl (by omega) (by omega) (fun bx1 => ?_)))))))))))
 refine TO.qa rfl (TO.nl (T.s (T.rg (TO.qa rfl (TO.nl (T.s (T.s (T.rg (TO.qa rfl (TO.nl (T.block ?_)))))))))))
 refine T.loop (fun (i : Nat) ρ O => ∃ (fl : List Nat) (k : Nat), O = [rowI (aD bx1) (xs.length + 1) 3 1 (nats fl)] ∧ 1 ≤ i ∧ i ≤ xs.length ∧ fl.length = xs.length + 1 ∧ (∀ j, 1 ≤ j → j ≤ i → LB (fun i => xs.getD i 0) j (fl.getD j 0)) ∧ k = fl.getD i 0 ∧ Heads [(0, (.slice b xs.length c)), (2, nS), (3, (.slice (aD bx1) (xs.length + 1) (xs.length + 1))), (4, vI (k : Int)), (5, vI (i : Int))] ρ) (fun i => xs.length - i) 1 ?_ ?_
 ·refine ⟨List.replicate (xs.length + 1) 0, 0, ?_, Nat.le_refl _, h0, by simp, fun j h1 h2 => ?_, by rw [gd (by simp; omega)]; simp, (.of rfl)⟩
  ·simp only [List.map_replicate]; rfl
  ·have : j = 1 := by omega
   subst this
   rw [gd (by simp; omega), List.getElem_replicate]; exact KMP.one
 rintro i ρ O ⟨fl, k, rfl, hi1, hi, hfl, hLB, hk0, hH⟩
 obtain ⟨ρ0, rfl⟩ := hH.elim
 clear hH
 have hW := hLB i hi1 (Nat.le_refl _)
 rw [← hk0] at hW
 have hk1 := hW.b.1
 refine T.s (T.s (T.rg (TO.qm rfl (TO.qm rfl (TO.q (q_len underlying26 rfl) (TO.q (q_lss rfl rfl) (TO.nl (T.condP rfl (fun hc => ?_) (fun hc => ?_)))))))))
 ·have hlt14 : i < xs.length := by omega
  refine T.skip (T.s (T.block (T.s (T.block ?_))))
  refine T.loop (fun (k2 : Nat) ρ O => O = [rowI (aD bx1) (xs.length + 1) 3 1 (nats fl)] ∧ Cand (fun i => xs.getD i 0) i k2 ∧ Heads [(0, (.slice b xs.length c)), (2, nS), (3, (.slice (aD bx1) (xs.length + 1) (xs.length + 1))), (4, vI (k2 : Int)), (5, vI (i : Int))] ρ) (fun k2 => k2) k ?_ ?_
  ·exact ⟨rfl, KMP.start hW, (.of rfl)⟩
  rintro k2 ρ O ⟨rfl, hcand, hH⟩
  obtain ⟨ρ0, rfl⟩ := hH.elim
  clear hH
  have hk2 := hcand.1.1
  refine T.s (T.s ?_)
  refine T.draws _ [(0, 0), (1, 0), (2, 0), (3, 0), (4, 0), (5, 0), (6, 0), (7, 0), (8, 0), (9, 0), (10, 0), (11, 0), (12, 0)] mixed (drawF_ok (by kernel_rfl)) (Sub.of (List.Sublist.refl _)) (fun _ _ _ h => h) ?_
  refine DO.q rfl (q_move rfl) (DO.q rfl (q_gtr rfl rfl) ?_)
  by_cases hs19 : (k2 : Int) > 0
  ·refine DO.q rfl (QT.toB (q_move rfl) (decide_eq_true hs19)) ?_
   refine DO.guarded rfl rfl rfl (q_move rfl) ?_
   refine DO.guarded rfl rfl rfl (q_move rfl) ?_
   refine DO.guarded rfl rfl rfl (q_ix (i := i) underlying26 inf5 rfl rfl (Sl.o hS)) ?_
   refine DO.guarded rfl rfl rfl (q_ld underlying5 rfl rfl (Sl.o hS) byts_get) ?_
   refine DO.guarded rfl rfl rfl (q_move rfl) ?_
   refine DO.guarded rfl rfl rfl (q_move rfl) ?_
   refine DO.guarded rfl rfl rfl (q_ix (i := k2) underlying26 inf5 rfl rfl (Sl.o hS)) ?_
   refine DO.guarded rfl rfl rfl (q_ld underlying5 rfl rfl (Sl.o hS) byts_get) ?_
   refine DO.guarded rfl rfl rfl (q_neq rfl rfl) ?_
   refine DO.q rfl (q_pick1 rfl rfl) ?_
   refine DO.done ?_
   refine T.condP rfl (fun hc => ?_) (fun hc => ?_)
   ·have hlt29 : xs[i] ≠ xs[k2] := by omega
    have hs28 := hc
    refine T.skip (T.block (T.rg (TO.qm rfl (TO.qm rfl (TO.q (q_ix (i := k2) underlying23 inf3 rfl rfl (rowO (mG 0 rfl))) (TO.q (q_ld underlying3 rfl rfl (rowO (mG 0 rfl)) nats_get) (TO.qa rfl (TO.nl ?_))))))))
    have hb := hLB k2 (by omega) (by omega)
    have hlt := hb.b.1
    rw [gd (by omega)] at hb hlt
    exact ⟨fl[k2], hlt, rfl, KMP.next hcand (by show xs.getD i 0 ≠ xs.getD k2 0; rw [gd (by omega), gd (by omega)]; omega) hb, (.of rfl)⟩
   have hge29 : ¬ xs[i] ≠ xs[k2] := by omega
   refine T.exit ?_
   refine T.s (T.s ?_)
   refine T.draws _ [(0, 0), (1, 0), (2, 0), (3, 0), (4, 0), (5, 0), (6, 0), (7, 0), (8, 0)] mixed (by kernel_rfl) (Sub.of (List.Sublist.refl _)) (fun _ _ _ h => h) ?_
   refine DO.q rfl (q_move rfl) (DO.q rfl (q_move rfl) (DO.q rfl (q_ix (i := i) underlying26 inf5 rfl rfl (Sl.o hS)) (DO.q rfl (q_ld underlying5 rfl rfl (Sl.o hS) byts_get) (DO.q rfl (q_move rfl) (DO.q rfl (q_move rfl) (DO.q rfl (q_ix (i := k2) underlying26 inf5 rfl rfl (Sl.o hS)) (DO.q rfl (q_ld underlying5 rfl rfl (Sl.o hS) byts_get) (DO.q rfl (q_eql rfl rfl) ?_))))))))
   refine DO.done ?_
   refine T.condP rfl (fun hc => ?_) (fun hc => ?_)
   ·have hlt42 : xs[i] = xs[k2] := by omega
    refine T.rg (TO.qm rfl (TO.q (q_addN (a := k2) (b := 1) rfl rfl (by omega)) (TO.qa rfl (TO.nl (T.rg (TO.qm rfl (TO.qm rfl (TO.q (q_addN (a := i) (b := 1) rfl rfl (by omega)) (TO.qm rfl (TO.q (q_ix (i := (i + 1)) underlying23 inf3 rfl rfl (rowO (mG 0 rfl))) (TO.l rfl (l_st (j := (i + 1)) (v := vI ((k2 + 1 : Nat) : Int)) (vs := [(vI ((k2 + 1 : Nat) : Int))]) (cs := nats fl) 0 inf3 rfl rfl rfl rfl rfl (by simp) rfl (by first | (simp; omega) | (simp_all; omega)) ?_))))))))))))
    refine TO.sub (O' := [rowI (aD bx1) (xs.length + 1) 3 1 (nats (fl.set (i + 1) (k2 + 1)))]) (by rw [show putL (nats fl) (i + 1) [(vI ((k2 + 1 : Nat) : Int))] = nats (fl.set (i + 1) (k2 + 1)) from (by simp [putL])]; exact Sub.of (List.Sublist.refl _)) ?_
    refine TO.nl (T.rg (TO.qm rfl (TO.q (q_addN (a := i) (b := 1) rfl rfl (by omega)) (TO.qa rfl (TO.nl ?_)))))
    exact ⟨i + 1, by omega, fl.set (i + 1) (k2 + 1), k2 + 1, rfl, by omega, by omega, by simp [hfl], fun j h1 h2 => lb_step hfl (by omega) hLB (KMP.hit hcand (by show xs.getD i 0 = xs.getD k2 0; rw [gd (by omega), gd (by omega)]; omega)) j h1 h2, by rw [gd (by simp; omega), List.getElem_set_self], (.of rfl)⟩
   have hge42 : ¬ xs[i] = xs[k2] := by omega
   refine T.skip (T.rg (TO.qm rfl (TO.qm rfl (TO.q (q_addN (a := i) (b := 1) rfl rfl (by omega)) (TO.qm rfl (TO.q (q_ix (i := (i + 1)) underlying23 inf3 rfl rfl (rowO (mG 0 rfl))) (TO.l rfl (l_st (j := (i + 1)) (v := vI (k2 : Int)) (vs := [(vI (k2 : Int))]) (cs := nats fl) 0 inf3 rfl rfl rfl rfl rfl (by simp) rfl (by first | (simp; omega) | (simp_all; omega)) ?_))))))))
   refine TO.sub (O' := [rowI (aD bx1) (xs.length + 1) 3 1 (nats (fl.set (i + 1) (k2)))]) (by rw [show putL (nats fl) (i + 1) [(vI (k2 : Int))] = nats (fl.set (i + 1) (k2)) from (by simp [putL])]; exact Sub.of (List.Sublist.refl _)) ?_
   refine TO.nl (T.rg (TO.qm rfl (TO.q (q_addN (a := i) (b := 1) rfl rfl (by omega)) (TO.qa rfl (TO.nl ?_)))))
   have hk20 : k2 = 0 := by omega
   subst hk20
   exact ⟨i + 1, by omega, fl.set (i + 1) 0, 0, rfl, by omega, by omega, by simp [hfl], fun j h1 h2 => lb_step hfl (by omega) hLB (KMP.miss hcand (by show xs.getD i 0 ≠ xs.getD 0 0; rw [gd (by omega), gd (by omega)]; omega)) j h1 h2, by rw [gd (by simp; omega), List.getElem_set_self], (.of rfl)⟩
  refine DO.q rfl (QT.toB (q_move rfl) (decide_eq_false hs19)) (DO.passed rfl rfl rfl (DO.passed rfl rfl rfl (DO.passed rfl rfl rfl (DO.passed rfl rfl rfl (DO.passed rfl rfl rfl (DO.passed rfl rfl rfl (DO.passed rfl rfl rfl ?_)))))))
  refine DO.passed rfl rfl rfl (DO.passed rfl rfl rfl (DO.q rfl (q_pick0 rfl rfl) ?_))
  refine DO.done ?_
  refine T.cond0 rfl ?_
  refine T.exit ?_
  refine T.s (T.s ?_)
  refine T.draws _ [(0, 0), (1, 0), (2, 0), (3, 0), (4, 0), (5, 0), (6, 0), (7, 0), (8, 0)] mixed (by kernel_rfl) (Sub.of (List.Sublist.refl _)) (fun _ _ _ h => h) ?_
  refine DO.q rfl (q_move rfl) (DO.q rfl (q_move rfl) (DO.q rfl (q_ix (i := i) underlying26 inf5 rfl rfl (Sl.o hS)) (DO.q rfl (q_ld underlying5 rfl rfl (Sl.o hS) byts_get) (DO.q rfl (q_move rfl) (DO.q rfl (q_move rfl) (DO.q rfl (q_ix (i := k2) underlying26 inf5 rfl rfl (Sl.o hS)) (DO.q rfl (q_ld underlying5 rfl rfl (Sl.o hS) byts_get) (DO.q rfl (q_eql rfl rfl) ?_))))))))
  refine DO.done ?_
  refine T.condP rfl (fun hc => ?_) (fun hc => ?_)
  ·have hlt42 : xs[i] = xs[k2] := by omega
   refine T.rg (TO.qm rfl (TO.q (q_addN (a := k2) (b := 1) rfl rfl (by omega)) (TO.qa rfl (TO.nl (T.rg (TO.qm rfl (TO.qm rfl (TO.q (q_addN (a := i) (b := 1) rfl rfl (by omega)) (TO.qm rfl (TO.q (q_ix (i := (i + 1)) underlying23 inf3 rfl rfl (rowO (mG 0 rfl))) (TO.l rfl (l_st (j := (i + 1)) (v := vI ((k2 + 1 : Nat) : Int)) (vs := [(vI ((k2 + 1 : Nat) : Int))]) (cs := nats fl) 0 inf3 rfl rfl rfl rfl rfl (by simp) rfl (by first | (simp; omega) | (simp_all; omega)) ?_))))))))))))
   refine TO.sub (O' := [rowI (aD bx1) (xs.length + 1) 3 1 (nats (fl.set (i + 1) (k2 + 1)))]) (by rw [show putL (nats fl) (i + 1) [(vI ((k2 + 1 : Nat) : Int))] = nats (fl.set (i + 1) (k2 + 1)) from (by simp [putL])]; exact Sub.of (List.Sublist.refl _)) ?_
   refine TO.nl (T.rg (TO.qm rfl (TO.q (q_addN (a := i) (b := 1) rfl rfl (by omega)) (TO.qa rfl (TO.nl ?_)))))
   exact ⟨i + 1, by omega, fl.set (i + 1) (k2 + 1), k2 + 1, rfl, by omega, by omega, by simp [hfl], fun j h1 h2 => lb_step hfl (by omega) hLB (KMP.hit hcand (by show xs.getD i 0 = xs.getD k2 0; rw [gd (by omega), gd (by omega)]; omega)) j h1 h2, by rw [gd (by simp; omega), List.getElem_set_self], (.of rfl)⟩
  have hge42 : ¬ xs[i] = xs[k2] := by omega
  refine T.skip (T.rg (TO.qm rfl (TO.qm rfl (TO.q (q_addN (a := i) (b := 1) rfl rfl (by omega)) (TO.qm rfl (TO.q (q_ix (i := (i + 1)) underlying23 inf3 rfl rfl (rowO (mG 0 rfl))) (TO.l rfl (l_st (j := (i + 1)) (v := vI (k2 : Int)) (vs := [(vI (k2 : Int))]) (cs := nats fl) 0 inf3 rfl rfl rfl rfl rfl (by simp) rfl (by first | (simp; omega) | (simp_all; omega)) ?_))))))))
  refine TO.sub (O' := [rowI (aD bx1) (xs.length + 1) 3 1 (nats (fl.set (i + 1) (k2)))]) (by rw [show putL (nats fl) (i + 1) [(vI (k2 : Int))] = nats (fl.set (i + 1) (k2)) from (by simp [putL])]; exact Sub.of (List.Sublist.refl _)) ?_
  refine TO.nl (T.rg (TO.qm rfl (TO.q (q_addN (a := i) (b := 1) rfl rfl (by omega)) (TO.qa rfl (TO.nl ?_)))))
  have hk20 : k2 = 0 := by omega
  subst hk20
  exact ⟨i + 1, by omega, fl.set (i + 1) 0, 0, rfl, by omega, by omega, by simp [hfl], fun j h1 h2 => lb_step hfl (by omega) hLB (KMP.miss hcand (by show xs.getD i 0 ≠ xs.getD 0 0; rw [gd (by omega), gd (by omega)]; omega)) j h1 h2, by rw [gd (by simp; omega), List.getElem_set_self], (.of rfl)⟩
 have hge14 : ¬ i < xs.length := by omega
 refine T.exit ?_
 refine T.s (T.s ?_)
 have hie : i = xs.length := by omega
 subst hie
 have hfn : fl[xs.length] < xs.length := by rw [gd (by omega)] at hk0; omega
 have hr0 := root_of h0 hW
 rw [hk0, gd (by omega)] at hr0
 refine T.rg (TO.qm rfl (TO.q (q_len underlying26 rfl) (TO.qm rfl (TO.qm rfl (TO.q (q_len underlying26 rfl) (TO.q (q_ix (i := xs.length) underlying23 inf3 rfl rfl (rowO (mG 0 rfl))) (TO.q (q_ld underlying3 rfl rfl (rowO (mG 0 rfl)) nats_get) (TO.q (q_subN (a := xs.length) (b := fl[xs.length]) rfl rfl (by omega) (by omega)) (TO.qa rfl (TO.nl (T.s (T.rg (TO.qm rfl (TO.q (q_len underlying26 rfl) (TO.qm rfl (TO.q (q_remN (a := xs.length) (b := (xs.length - fl[xs.length])) rfl rfl (by omega)) (TO.q (q_eql rfl rfl) (TO.nl (T.condP rfl (fun hc => ?_) (fun hc => ?_))))))))))))))))))))
 ·have hlt62 : xs.length % (xs.length - fl[xs.length]) = 0 := by omega
  refine T.s (T.rg (TO.qm rfl (TO.qm rfl (TO.q (q_sliceTo (hi := (xs.length - fl[xs.length])) underlying26 inf5 rfl rfl (by omega)) (TO.qa rfl (TO.nl (T.ret (Res.drop ?_))))))))
  refine Res.one (.slice b (xs.length - fl[xs.length]) c) Tryd.results99 rfl ?_
  rw [if_pos (by omega)] at hr0
  exact ⟨[], Sub.of (List.nil_sublist _), _, rfl, rfl, hr0⟩
 have hge62 : ¬ xs.length % (xs.length - fl[xs.length]) = 0 := by omega
 refine T.skip (T.s (T.rg (TO.qm rfl (TO.qa rfl (TO.nl (T.ret (Res.drop ?_)))))))
 refine Res.one (.slice b xs.length c) Tryd.results99 rfl ?_
 rw [if_neg (by omega)] at hr0
 exact ⟨[], Sub.of (List.nil_sublist _), _, rfl, rfl, hr0⟩
theorem canonicalF (w : World) [Tab Tryd.prog w] (l : La) (pb lb : Option Addr) (pc lc : Nat) (h : LaAt w l pb lb pc lc) (hL : LaB l) (h0 : 0 < l.loop.length) :
  PureT Tryd.prog 90 [.agg (laCells l pb pc lb lc).toArray] w fun v N => ∃ c pb2 lb2 pc2 lc2, v = .agg (laCells c pb2 pc2 lb2 lc2).toArray ∧ N = [rowI pb2 pc2 5 1 (byts c.pre), rowI lb2 lc2 5 1 (byts c.loop)] ∧ CanonOf l c := by
 refine CallT.enter func90 rfl ntmps90 rfl ?_
 have hpl := hL.pre; have hll := hL.loop; have hpc := h.pc; have hlc := h.lc
 refine T.s (T.rg (TO.l rfl (l_box (v := (.agg (laCells l pb pc lb lc).toArray)) (cs := (laCells l pb pc lb lc)) rfl rfl (fun bx1 => ?_))))
 refine TO.l rfl (l_alloc inf28 rfl (fun bx2 => ?_))
 refine TO.nl ?_
 refine T.scope ?_ (fun _ _ _ h => h)
 refine T.s (T.rg (TO.q (q_la 1 underlying28 rfl inf28 rfl rfl rfl) ?_))
 have hk7 := fun (w1 : World) (hI : Inv w [oI bx2 28 [nS, nS], oI bx1 28 (laCells l pb pc lb lc)] w1) => (haveI := Inv.tab (P := Tryd.prog) hI; fullF w1 l pb lb pc lc h0)
 refine TO.l rfl (l_call ent98 (CallT.op hk7) rfl ?_)
 clear hk7
 rintro vr O' ⟨N, rfl, rfl, rfl⟩
 refine TO.l rfl (l_sb (v := (.agg (laCells l pb pc lb lc).toArray)) (vs := (laCells l pb pc lb lc)) 1 inf28 rfl rfl rfl rfl rfl rfl (by simp [putL]) ?_)
 refine TO.nl (T.s ?_)
 refine T.draws _ [(0, 0), (1, 0), (3, 0), (4, 0), (5, 0), (2, 1), (6, 0), (7, 0)] mixed (by kernel_rfl) (Sub.of (List.Sublist.refl _)) (fun _ _ _ h => h) ?_
 refine DO.q rfl (q_fa underlying28 rfl inf26 rfl rfl) (DO.q rfl (q_lb 1 underlying26 rfl rfl rfl rfl) (DO.q rfl (q_fa underlying28 rfl inf26 rfl rfl) (DO.q rfl (q_lb 1 underlying26 rfl rfl rfl rfl) (DO.q rfl (q_len underlying26 rfl) ?_))))
 have hk10 := fun (w1 : World) (hI : Inv w [oI bx2 28 [nS, nS], oI bx1 28 (laCells l pb pc lb lc)] w1) => (haveI := Inv.tab (P := Tryd.prog) hI; rootF w1 lb lc l.loop (hI.sl h.loop) h0 h.lc hL.loop)
 refine DO.loud rfl rfl (l_call ent99 (CallT.op hk10) rfl ?_)
 clear hk10
 rintro vr O' ⟨N, rfl, q, rfl, rfl, hr⟩
 refine ⟨Sub.pick [0, 0] rfl, ?_⟩
 refine DO.q rfl (q_assign rfl) (DO.q rfl (q_assign rfl) ?_)
 refine DO.done ?_
 refine T.s ?_
 have hq0 := hr.pos
 have hql : q ≤ l.loop.length := Nat.le_of_dvd h0 hr.dvd
 refine T.rg (TO.qm rfl (TO.q (q_len underlying26 rfl) (TO.qa rfl (TO.nl (T.s ?_)))))
 refine T.label ?_
 refine T.s (T.block ?_)
 refine T.loop (fun (n : Nat) ρ O => ∃ (a : Nat), O = [oI bx2 28 [nS, nS], oI bx1 28 (laCells l pb pc lb lc)] ∧ CanP l q n a ∧ Heads [(0, (.agg (laCells l pb pc lb lc).toArray)), (1, (.pointer (aD bx1))), (2, (.pointer (aD bx2))), (3, (.slice lb q lc)), (4, vI (n : Int)), (5, vI (a : Int))] ρ) (fun n => n) l.pre.length ?_ ?_
 ·exact ⟨q, rfl, CanP.start h0 hr, (.of rfl)⟩
 rintro n ρ O ⟨a, rfl, hcp, hH⟩
 obtain ⟨ρ0, rfl⟩ := hH.elim
 clear hH
 have hn := hcp.nl; have ha0 := hcp.a0; have haq := hcp.aq
 have hmq : (a - 1) % q < q := Nat.mod_lt _ hq0
 refine T.s (T.s (T.rg (TO.qm rfl (TO.q (q_gtr rfl rfl) (TO.nl (T.condP rfl (fun hc => ?_) (fun hc => ?_)))))))
 ·have hlt17 : n > 0 := by omega
  have hn0 : 0 < n := by omega
  refine T.skip (T.block (T.s (T.s ?_)))
  refine T.draws _ [(0, 0), (1, 0), (2, 0), (3, 0), (4, 0), (5, 0), (6, 0), (7, 0), (8, 0), (9, 0), (10, 0), (11, 0), (12, 0), (13, 0), (14, 0)] mixed (drawF_ok (by kernel_rfl)) (Sub.of (List.Sublist.refl _)) (fun _ _ _ h => h) ?_
  refine DO.q rfl (q_fa underlying28 rfl inf26 rfl rfl) (DO.q rfl (q_lb 1 underlying26 rfl rfl rfl rfl) (DO.q rfl (q_move rfl) (DO.q rfl (q_subN (a := n) (b := 1) rfl rfl (by omega) (by omega)) (DO.q rfl (q_ix (i := (n - 1)) underlying26 inf5 rfl rfl (Sl.o h.pre)) (DO.q rfl (q_ld underlying5 rfl rfl (Sl.o h.pre) byts_get) (DO.q rfl (q_move rfl) (DO.q rfl (q_move rfl) (DO.q rfl (q_subN (a := a) (b := 1) rfl rfl (by omega) (by omega)) (DO.q rfl (q_move rfl) (DO.q rfl (q_len underlying26 rfl) (DO.q rfl (q_remN (a := (a - 1)) (b := q) rfl rfl (by omega)) (DO.q rfl (q_ix (i := ((a - 1) % q)) underlying26 inf5 rfl rfl (Sl.o h.loop) (by omega) (by rw [List.length_map]; omega)) (DO.q rfl (q_ld underlying5 rfl rfl (Sl.o h.loop) (byts_get (by omega))) (DO.q rfl (q_neq rfl rfl) ?_))))))))))))))
  refine DO.done ?_
  refine T.condP rfl (fun hc => ?_) (fun hc => ?_)
  ·have hlt32 : l.pre[n - 1] ≠ l.loop[(a - 1) % q] := by omega
   have hx : 0 < n → l.pre.getD (n - 1) 0 ≠ l.loop.getD ((a - 1) % q) 0 := fun h9 => by rw [gd (by omega), gd (by omega)]; omega
   refine T.exit ?_
   refine T.s ?_
   have hmq9 : a % q < q := Nat.mod_lt _ hq0
   have hmq := hmq9
   have hpn : (l.pre.take n).length = n := by rw [List.length_take]; omega
   have hr1 : ((l.loop.take q).drop (a % q)).length = q - a % q := by rw [List.length_drop, List.length_take]; omega
   have hr2 : ((l.loop.take q).take (a % q)).length = a % q := by rw [List.length_take, List.length_take]; omega
   have hfe : [(l.loop.take q).drop (a % q), (l.loop.take q).take (a % q)].flatten = (l.loop.take q).drop (a % q) ++ (l.loop.take q).take (a % q) := by simp
   have hfl : ((l.loop.take q).drop (a % q) ++ (l.loop.take q).take (a % q)).length = q := by rw [List.length_append, hr1, hr2]; omega
   have hco := canon_of h0 hr hcp hx
   refine T.rg (TO.qm rfl (TO.qm rfl (TO.q (q_len underlying26 rfl) (TO.q (q_remN (a := a) (b := q) rfl rfl (by omega)) (TO.qa rfl (TO.nl ?_))))))
   refine T.cut (fun ρ O => ∃ (kb cb2 : Option Addr) (kc cc2 : Nat), O = [oI bx2 28 [(.slice kb n kc), (.slice cb2 q cc2)], rowI kb kc 5 1 (byts (l.pre.take n)), rowI cb2 cc2 5 1 (byts ((l.loop.take q).drop (a % q) ++ (l.loop.take q).take (a % q))), oI bx1 28 (laCells l pb pc lb lc)] ∧ Heads [(0, (.agg (laCells l pb pc lb lc).toArray)), (1, (.pointer (aD bx1))), (2, (.pointer (aD bx2))), (3, (.slice lb q lc)), (4, vI (n : Int)), (5, vI ((a % q : Nat) : Int))] ρ) ?_ ?_
   ·refine T.tree [oI bx1 28 (laCells l pb pc lb lc)] 15 mixed rfl (Sub.pick [1] rfl) (fun _ _ _ h => h) ?_
    refine RO.quietT 0 rfl (by kernel_rfl) (q_fa underlying28 rfl inf26 rfl rfl) ?_
    refine RO.quietT 1 rfl (by kernel_rfl) (q_lb 0 underlying26 rfl rfl rfl rfl) ?_
    refine RO.quietT 2 rfl (by kernel_rfl) (q_move rfl) ?_
    refine RO.quietT 3 rfl (by kernel_rfl) (q_sliceTo (hi := n) underlying26 inf5 rfl rfl (by omega)) ?_
    refine RO.quietT 5 rfl (by kernel_rfl) (q_move rfl) ?_
    refine RO.quietT 6 rfl (by kernel_rfl) (q_move rfl) ?_
    refine RO.quietT 7 rfl (by kernel_rfl) (q_sliceFrom (lo := (a % q)) underlying26 inf5 rfl rfl (by omega) (by omega)) ?_
    refine RO.quietT 8 rfl (by kernel_rfl) (q_move rfl) ?_
    refine RO.quietT 9 rfl (by kernel_rfl) (q_move rfl) ?_
    refine RO.quietT 10 rfl (by kernel_rfl) (q_sliceTo (hi := (a % q)) underlying26 inf5 rfl rfl (by omega)) ?_
    have hk49 := fun (w1 : World) (hI : Inv w [oI bx2 28 [nS, nS], oI bx1 28 (laCells l pb pc lb lc)] w1) => (haveI := Inv.tab (P := Tryd.prog) hI; (by
     have hC := cloneB w1 pb pc (l.pre.take n) ((hI.sl h.pre).btake n) (by rw [hpn]; omega)
     rw [hpn] at hC; exact hC))
    refine RO.fork [4, 11] (by kernel_rfl) rfl ⟨⟨_, rfl, rfl, l_call ent100 (CallT.op hk49) rfl ?_⟩, ⟨_, rfl, rfl, l_buildSlice (m := 2) (parts := [(0, .tmp 52), (1, .tmp 55)]) (cs := [(.slice (subB lb lc (a % q) 1) (q - (a % q)) (lc - (a % q))), (.slice lb (a % q) lc)]) underlying129 inf26 (by decide) (by kernel_rfl) rfl (fun zW => ⟨Sub.pick [2] rfl, ?_⟩)⟩, trivial⟩
    ·clear hk49
     rintro vr O' ⟨N, rfl, kb, kc, rfl, rfl⟩
     refine ⟨Sub.pick [2] rfl, ?_⟩
     refine RO.fork [11] (by kernel_rfl) rfl ⟨⟨_, rfl, rfl, l_buildSlice (m := 2) (parts := [(0, .tmp 52), (1, .tmp 55)]) (cs := [(.slice (subB lb lc (a % q) 1) (q - (a % q)) (lc - (a % q))), (.slice lb (a % q) lc)]) underlying129 inf26 (by decide) (by kernel_rfl) rfl (fun zW => ⟨Sub.pick [3] rfl, ?_⟩)⟩, trivial⟩
     have hk57 := fun (w1 : World) (hI : Inv w [rowI (aD zW) 2 26 1 [(.slice (subB lb lc (a % q) 1) (q - (a % q)) (lc - (a % q))), (.slice lb (a % q) lc)], rowI kb kc 5 1 (byts (l.pre.take n)), oI bx2 28 [nS, nS], oI bx1 28 (laCells l pb pc lb lc)] w1) => (haveI := Inv.tab (P := Tryd.prog) hI; (by
      have hC := concatB w1 (aD zW) 2 [.slice (subB lb lc (a % q) 1) (q - a % q) (lc - a % q), .slice lb (a % q) lc] [(l.loop.take q).drop (a % q), (l.loop.take q).take (a % q)] (hI.slOf (mG 0 rfl)) (WordsR.two ((hI.sl h.loop).bsub h.lc hmq hql) (((hI.sl h.loop).btake q).btake (a % q)) hr1 hr2) (by simp) (by rw [hfe, hfl]; omega)
      rw [hfe, hfl] at hC; exact hC))
     refine RO.fork [12] (by kernel_rfl) rfl ⟨⟨_, rfl, rfl, l_call ent101 (CallT.op hk57) rfl ?_⟩, trivial⟩
     clear hk57
     rintro vr O' ⟨N, rfl, cb2, cc2, rfl, rfl⟩
     refine ⟨Sub.pick [4] rfl, ?_⟩
     refine RO.quietT 13 rfl (by kernel_rfl) (q_build (cs := [(.slice kb n kc), (.slice cb2 q cc2)]) plan28 inf28 (by kernel_rfl)) ?_
     refine RO.fork [14] (by kernel_rfl) rfl ⟨⟨_, rfl, rfl, l_sb (v := (.agg #[(.slice kb n kc), (.slice cb2 q cc2)])) (vs := [(.slice kb n kc), (.slice cb2 q cc2)]) 3 inf28 rfl rfl rfl rfl rfl rfl (by simp [putL]) ⟨Sub.pick [4] rfl, ?_⟩⟩, trivial⟩
     exact RO.fin (by kernel_rfl) ⟨kb, cb2, kc, cc2, rfl, (.of rfl)⟩ (Sub.pick [3, 2, 0, 1] rfl)
    have hk49 := fun (w1 : World) (hI : Inv w [rowI (aD zW) 2 26 1 [(.slice (subB lb lc (a % q) 1) (q - (a % q)) (lc - (a % q))), (.slice lb (a % q) lc)], oI bx2 28 [nS, nS], oI bx1 28 (laCells l pb pc lb lc)] w1) => (haveI := Inv.tab (P := Tryd.prog) hI; (by
     have hC := cloneB w1 pb pc (l.pre.take n) ((hI.sl h.pre).btake n) (by rw [hpn]; omega)
     rw [hpn] at hC; exact hC))
    refine RO.fork [4] (by kernel_rfl) rfl ⟨⟨_, rfl, rfl, l_call ent100 (CallT.op hk49) rfl ?_⟩, trivial⟩
    clear hk49
    rintro vr O' ⟨N, rfl, kb, kc, rfl, rfl⟩
    refine ⟨Sub.pick [3] rfl, ?_⟩
    have hk57 := fun (w1 : World) (hI : Inv w [rowI kb kc 5 1 (byts (l.pre.take n)), rowI (aD zW) 2 26 1 [(.slice (subB lb lc (a % q) 1) (q - (a % q)) (lc - (a % q))), (.slice lb (a % q) lc)], oI bx2 28 [nS, nS], oI bx1 28 (laCells l pb pc lb lc)] w1) => (haveI := Inv.tab (P := Tryd.prog) hI; (by
     have hC := concatB w1 (aD zW) 2 [.slice (subB lb lc (a % q) 1) (q - a % q) (lc - a % q), .slice lb (a % q) lc] [(l.loop.take q).drop (a % q), (l.loop.take q).take (a % q)] (hI.slOf (mG 1 rfl)) (WordsR.two ((hI.sl h.loop).bsub h.lc hmq hql) (((hI.sl h.loop).btake q).btake (a % q)) hr1 hr2) (by simp) (by rw [hfe, hfl]; omega)
     rw [hfe, hfl] at hC; exact hC))
    refine RO.fork [12] (by kernel_rfl) rfl ⟨⟨_, rfl, rfl, l_call ent101 (CallT.op hk57) rfl ?_⟩, trivial⟩
    clear hk57
    rintro vr O' ⟨N, rfl, cb2, cc2, rfl, rfl⟩
    refine ⟨Sub.pick [4] rfl, ?_⟩
    refine RO.quietT 13 rfl (by kernel_rfl) (q_build (cs := [(.slice kb n kc), (.slice cb2 q cc2)]) plan28 inf28 (by kernel_rfl)) ?_
    refine RO.fork [14] (by kernel_rfl) rfl ⟨⟨_, rfl, rfl, l_sb (v := (.agg #[(.slice kb n kc), (.slice cb2 q cc2)])) (vs := [(.slice kb n kc), (.slice cb2 q cc2)]) 3 inf28 rfl rfl rfl rfl rfl rfl (by simp [putL]) ⟨Sub.pick [4] rfl, ?_⟩⟩, trivial⟩
    exact RO.fin (by kernel_rfl) ⟨kb, cb2, kc, cc2, rfl, (.of rfl)⟩ (Sub.pick [3, 1, 0, 1] rfl)
   rintro ρ O ⟨kb, cb2, kc, cc2, rfl, hH⟩
   obtain ⟨ρ0, rfl⟩ := hH.elim
   clear hH
   refine T.ret (Res.drop ?_)
   refine Res.cell1 (i := 0) Tryd.results90 underlying28 rfl inf28 rfl rfl rfl ?_
   exact ⟨[rowI kb kc 5 1 (byts (l.pre.take n)), rowI cb2 cc2 5 1 (byts ((l.loop.take q).drop (a % q) ++ (l.loop.take q).take (a % q)))], (Sub.pick [1, 1] rfl), _, kb, cb2, kc, cc2, by show _ = Value.agg (List.toArray [.slice kb (l.pre.take n).length kc, .slice cb2 ((l.loop.take q).drop (a % q) ++ (l.loop.take q).take (a % q)).length cc2]); rw [hpn, hfl], rfl, hco⟩
  have hge32 : ¬ l.pre[n - 1] ≠ l.loop[(a - 1) % q] := by omega
  refine T.skip (T.s (T.rg (TO.qm rfl (TO.q (q_subN (a := n) (b := 1) rfl rfl (by omega) (by omega)) (TO.qa rfl (TO.nl (T.s (T.rg (TO.qm rfl (TO.q (q_subN (a := a) (b := 1) rfl rfl (by omega) (by omega)) (TO.qa rfl (TO.nl (T.s (T.rg (TO.qm rfl (TO.q (q_eql rfl rfl) (TO.nl (T.condP rfl (fun hc => ?_) (fun hc => ?_)))))))))))))))))))
  ·have hlt38 : a - 1 = 0 := by omega
   refine T.rg (TO.qm rfl (TO.q (q_len underlying26 rfl) (TO.qa rfl (TO.nl ?_))))
   have h9 := hcp.step (by omega) (by rw [gd (by omega), gd (by omega)]; omega)
   rw [if_pos (by omega)] at h9
   exact ⟨n - 1, by omega, _, rfl, h9, (.of rfl)⟩
  have hge38 : ¬ a - 1 = 0 := by omega
  refine T.skip ?_
  have h9 := hcp.step (by omega) (by rw [gd (by omega), gd (by omega)]; omega)
  rw [if_neg (by omega)] at h9
  exact ⟨n - 1, by omega, _, rfl, h9, (.of rfl)⟩
 have hge17 : ¬ n > 0 := by omega
 have hx : 0 < n → l.pre.getD (n - 1) 0 ≠ l.loop.getD ((a - 1) % q) 0 := fun h9 => absurd h9 (by omega)
 refine T.exit ?_
 refine T.s ?_
 have hmq9 : a % q < q := Nat.mod_lt _ hq0
 have hmq := hmq9
 have hpn : (l.pre.take n).length = n := by rw [List.length_take]; omega
 have hr1 : ((l.loop.take q).drop (a % q)).length = q - a % q := by rw [List.length_drop, List.length_take]; omega
 have hr2 : ((l.loop.take q).take (a % q)).length = a % q := by rw [List.length_take, List.length_take]; omega
 have hfe : [(l.loop.take q).drop (a % q), (l.loop.take q).take (a % q)].flatten = (l.loop.take q).drop (a % q) ++ (l.loop.take q).take (a % q) := by simp
 have hfl : ((l.loop.take q).drop (a % q) ++ (l.loop.take q).take (a % q)).length = q := by rw [List.length_append, hr1, hr2]; omega
 have hco := canon_of h0 hr hcp hx
 refine T.rg (TO.qm rfl (TO.qm rfl (TO.q (q_len underlying26 rfl) (TO.q (q_remN (a := a) (b := q) rfl rfl (by omega)) (TO.qa rfl (TO.nl ?_))))))
 refine T.cut (fun ρ O => ∃ (kb cb2 : Option Addr) (kc cc2 : Nat), O = [oI bx2 28 [(.slice kb n kc), (.slice cb2 q cc2)], rowI kb kc 5 1 (byts (l.pre.take n)), rowI cb2 cc2 5 1 (byts ((l.loop.take q).drop (a % q) ++ (l.loop.take q).take (a % q))), oI bx1 28 (laCells l pb pc lb lc)] ∧ Heads [(0, (.agg (laCells l pb pc lb lc).toArray)), (1, (.pointer (aD bx1))), (2, (.pointer (aD bx2))), (3, (.slice lb q lc)), (4, vI (n : Int)), (5, vI ((a % q : Nat) : Int))] ρ) ?_ ?_
 ·refine T.tree [oI bx1 28 (laCells l pb pc lb lc)] 15 mixed rfl (Sub.pick [1] rfl) (fun _ _ _ h => h) ?_
  refine RO.quietT 0 rfl (by kernel_rfl) (q_fa underlying28 rfl inf26 rfl rfl) ?_
  refine RO.quietT 1 rfl (by kernel_rfl) (q_lb 0 underlying26 rfl rfl rfl rfl) ?_
  refine RO.quietT 2 rfl (by kernel_rfl) (q_move rfl) ?_
  refine RO.quietT 3 rfl (by kernel_rfl) (q_sliceTo (hi := n) underlying26 inf5 rfl rfl (by omega)) ?_
  refine RO.quietT 5 rfl (by kernel_rfl) (q_move rfl) ?_
  refine RO.quietT 6 rfl (by kernel_rfl) (q_move rfl) ?_
  refine RO.quietT 7 rfl (by kernel_rfl) (q_sliceFrom (lo := (a % q)) underlying26 inf5 rfl rfl (by omega) (by omega)) ?_
  refine RO.quietT 8 rfl (by kernel_rfl) (q_move rfl) ?_
  refine RO.quietT 9 rfl (by kernel_rfl) (q_move rfl) ?_
  refine RO.quietT 10 rfl (by kernel_rfl) (q_sliceTo (hi := (a % q)) underlying26 inf5 rfl rfl (by omega)) ?_
  have hk49 := fun (w1 : World) (hI : Inv w [oI bx2 28 [nS, nS], oI bx1 28 (laCells l pb pc lb lc)] w1) => (haveI := Inv.tab (P := Tryd.prog) hI; (by
   have hC := cloneB w1 pb pc (l.pre.take n) ((hI.sl h.pre).btake n) (by rw [hpn]; omega)
   rw [hpn] at hC; exact hC))
  refine RO.fork [4, 11] (by kernel_rfl) rfl ⟨⟨_, rfl, rfl, l_call ent100 (CallT.op hk49) rfl ?_⟩, ⟨_, rfl, rfl, l_buildSlice (m := 2) (parts := [(0, .tmp 52), (1, .tmp 55)]) (cs := [(.slice (subB lb lc (a % q) 1) (q - (a % q)) (lc - (a % q))), (.slice lb (a % q) lc)]) underlying129 inf26 (by decide) (by kernel_rfl) rfl (fun zW => ⟨Sub.pick [2] rfl, ?_⟩)⟩, trivial⟩
  ·clear hk49
   rintro vr O' ⟨N, rfl, kb, kc, rfl, rfl⟩
   refine ⟨Sub.pick [2] rfl, ?_⟩
   refine RO.fork [11] (by kernel_rfl) rfl ⟨⟨_, rfl, rfl, l_buildSlice (m := 2) (parts := [(0, .tmp 52), (1, .tmp 55)]) (cs := [(.slice (subB lb lc (a % q) 1) (q - (a % q)) (lc - (a % q))), (.slice lb (a % q) lc)]) underlying129 inf26 (by decide) (by kernel_rfl) rfl (fun zW => ⟨Sub.pick [3] rfl, ?_⟩)⟩, trivial⟩
   have hk57 := fun (w1 : World) (hI : Inv w [rowI (aD zW) 2 26 1 [(.slice (subB lb lc (a % q) 1) (q - (a % q)) (lc - (a % q))), (.slice lb (a % q) lc)], rowI kb kc 5 1 (byts (l.pre.take n)), oI bx2 28 [nS, nS], oI bx1 28 (laCells l pb pc lb lc)] w1) => (haveI := Inv.tab (P := Tryd.prog) hI; (by
    have hC := concatB w1 (aD zW) 2 [.slice (subB lb lc (a % q) 1) (q - a % q) (lc - a % q), .slice lb (a % q) lc] [(l.loop.take q).drop (a % q), (l.loop.take q).take (a % q)] (hI.slOf (mG 0 rfl)) (WordsR.two ((hI.sl h.loop).bsub h.lc hmq hql) (((hI.sl h.loop).btake q).btake (a % q)) hr1 hr2) (by simp) (by rw [hfe, hfl]; omega)
    rw [hfe, hfl] at hC; exact hC))
   refine RO.fork [12] (by kernel_rfl) rfl ⟨⟨_, rfl, rfl, l_call ent101 (CallT.op hk57) rfl ?_⟩, trivial⟩
   clear hk57
   rintro vr O' ⟨N, rfl, cb2, cc2, rfl, rfl⟩
   refine ⟨Sub.pick [4] rfl, ?_⟩
   refine RO.quietT 13 rfl (by kernel_rfl) (q_build (cs := [(.slice kb n kc), (.slice cb2 q cc2)]) plan28 inf28 (by kernel_rfl)) ?_
   refine RO.fork [14] (by kernel_rfl) rfl ⟨⟨_, rfl, rfl, l_sb (v := (.agg #[(.slice kb n kc), (.slice cb2 q cc2)])) (vs := [(.slice kb n kc), (.slice cb2 q cc2)]) 3 inf28 rfl rfl rfl rfl rfl rfl (by simp [putL]) ⟨Sub.pick [4] rfl, ?_⟩⟩, trivial⟩
   exact RO.fin (by kernel_rfl) ⟨kb, cb2, kc, cc2, rfl, (.of rfl)⟩ (Sub.pick [3, 2, 0, 1] rfl)
  have hk49 := fun (w1 : World) (hI : Inv w [rowI (aD zW) 2 26 1 [(.slice (subB lb lc (a % q) 1) (q - (a % q)) (lc - (a % q))), (.slice lb (a % q) lc)], oI bx2 28 [nS, nS], oI bx1 28 (laCells l pb pc lb lc)] w1) => (haveI := Inv.tab (P := Tryd.prog) hI; (by
   have hC := cloneB w1 pb pc (l.pre.take n) ((hI.sl h.pre).btake n) (by rw [hpn]; omega)
   rw [hpn] at hC; exact hC))
  refine RO.fork [4] (by kernel_rfl) rfl ⟨⟨_, rfl, rfl, l_call ent100 (CallT.op hk49) rfl ?_⟩, trivial⟩
  clear hk49
  rintro vr O' ⟨N, rfl, kb, kc, rfl, rfl⟩
  refine ⟨Sub.pick [3] rfl, ?_⟩
  have hk57 := fun (w1 : World) (hI : Inv w [rowI kb kc 5 1 (byts (l.pre.take n)), rowI (aD zW) 2 26 1 [(.slice (subB lb lc (a % q) 1) (q - (a % q)) (lc - (a % q))), (.slice lb (a % q) lc)], oI bx2 28 [nS, nS], oI bx1 28 (laCells l pb pc lb lc)] w1) => (haveI := Inv.tab (P := Tryd.prog) hI; (by
   have hC := concatB w1 (aD zW) 2 [.slice (subB lb lc (a % q) 1) (q - a % q) (lc - a % q), .slice lb (a % q) lc] [(l.loop.take q).drop (a % q), (l.loop.take q).take (a % q)] (hI.slOf (mG 1 rfl)) (WordsR.two ((hI.sl h.loop).bsub h.lc hmq hql) (((hI.sl h.loop).btake q).btake (a % q)) hr1 hr2) (by simp) (by rw [hfe, hfl]; omega)
   rw [hfe, hfl] at hC; exact hC))
  refine RO.fork [12] (by kernel_rfl) rfl ⟨⟨_, rfl, rfl, l_call ent101 (CallT.op hk57) rfl ?_⟩, trivial⟩
  clear hk57
  rintro vr O' ⟨N, rfl, cb2, cc2, rfl, rfl⟩
  refine ⟨Sub.pick [4] rfl, ?_⟩
  refine RO.quietT 13 rfl (by kernel_rfl) (q_build (cs := [(.slice kb n kc), (.slice cb2 q cc2)]) plan28 inf28 (by kernel_rfl)) ?_
  refine RO.fork [14] (by kernel_rfl) rfl ⟨⟨_, rfl, rfl, l_sb (v := (.agg #[(.slice kb n kc), (.slice cb2 q cc2)])) (vs := [(.slice kb n kc), (.slice cb2 q cc2)]) 3 inf28 rfl rfl rfl rfl rfl rfl (by simp [putL]) ⟨Sub.pick [4] rfl, ?_⟩⟩, trivial⟩
  exact RO.fin (by kernel_rfl) ⟨kb, cb2, kc, cc2, rfl, (.of rfl)⟩ (Sub.pick [3, 1, 0, 1] rfl)
 rintro ρ O ⟨kb, cb2, kc, cc2, rfl, hH⟩
 obtain ⟨ρ0, rfl⟩ := hH.elim
 clear hH
 refine T.ret (Res.drop ?_)
 refine Res.cell1 (i := 0) Tryd.results90 underlying28 rfl inf28 rfl rfl rfl ?_
 exact ⟨[rowI kb kc 5 1 (byts (l.pre.take n)), rowI cb2 cc2 5 1 (byts ((l.loop.take q).drop (a % q) ++ (l.loop.take q).take (a % q)))], (Sub.pick [1, 1] rfl), _, kb, cb2, kc, cc2, by show _ = Value.agg (List.toArray [.slice kb (l.pre.take n).length kc, .slice cb2 ((l.loop.take q).drop (a % q) ++ (l.loop.take q).take (a % q)).length cc2]); rw [hpn, hfl], rfl, hco⟩
end Go.Proofs.YtnikhiohindggaaDoor


namespace Go.Proofs.YtnikhiohindggaaDoor
open Go.Lx Go.RowKit _root_.Go.Proofs.Tryd
theorem inF2 (base : World) [Tab Tryd.prog base] (pb : Nat) (b : Option Addr) (c : Nat) (l : List Nat) (n : Nat) (hnl : n = l.length) (hb : l.length < 1000000) (OO : List Lx.Item) (hS : ∀ w, Inv base ([oI pb 23 [(.slice b n c)]] ++ OO) w → Sl w b (nats l)) (u : Nat) :
  CallT Tryd.prog base 86 [vI ((u : Nat) : Int), (.pointer (aD pb))] ([oI pb 23 [(.slice b n c)]] ++ OO) (fun v O' => v = .bool (decide ((fun u : Nat => decide (u ∈ l)) u = true)) ∧ O' = [oI pb 23 [(.slice b n c)]] ++ OO) := by
 subst hnl; exact inF base pb b c l hb OO hS u
theorem canonicalA (w : World) [Tab Tryd.prog w] (y1 y2 y3 : List Nat) (pb lb : Option Addr) (pc lc : Nat) (h : LaAt w ⟨y1, y2 ++ y3⟩ pb lb pc lc) (hL : LaB ⟨y1, y2 ++ y3⟩) (h0 : 0 < (⟨y1, y2 ++ y3⟩ : La).loop.length) :
  PureT Tryd.prog 90 [.agg #[.slice pb y1.length pc, .slice lb (y2.length + y3.length) lc]] w fun v N => ∃ c pb2 lb2 pc2 lc2, v = .agg (laCells c pb2 pc2 lb2 lc2).toArray ∧ N = [rowI pb2 pc2 5 1 (byts c.pre), rowI lb2 lc2 5 1 (byts c.loop)] ∧ CanonOf ⟨y1, y2 ++ y3⟩ c := by
 have h9 := canonicalF w ⟨y1, y2 ++ y3⟩ pb lb pc lc h hL h0
 rw [show (laCells (⟨y1, y2 ++ y3⟩ : La) pb pc lb lc).toArray = #[.slice pb y1.length pc, .slice lb (y2.length + y3.length) lc] by show #[Value.slice pb y1.length pc, Value.slice lb (y2 ++ y3).length lc] = _; rw [List.length_append]] at h9
 exact h9
theorem findC0 (base : World) [Tab Tryd.prog base] (p : Par) (k : DK) (h : AtP base p k) (hv : Val p.d) (hn : p.next.length ≤ 4096) (hw : letN p.d ≤ 64) (OO : List Lx.Item) (al one two : Nat → Bool) (fal fone ftwo : Value) (hfc : fal.cells = #[fal]) (hal : ∀ u, u < p.next.length → CallV Tryd.prog base fal [vI ((u : Nat) : Int)] OO (fun v O' => v = .bool (decide (al u = true)) ∧ O' = OO)) (hone : ∀ u, u < p.next.length → CallV Tryd.prog base fone [vI ((u : Nat) : Int)] OO (fun v O' => v = .bool (decide (one u = true)) ∧ O' = OO)) (htwo : ∀ u, u < p.next.length → CallV Tryd.prog base ftwo [vI ((u : Nat) : Int)] OO (fun v O' => v = .bool (decide (two u = true)) ∧ O' = OO)) :
  CallT Tryd.prog base 63 [pV p k, fal, fone, ftwo] OO (fun v O' => ∃ b l pb pc lb lc, v = .tuple #[.agg (laCells l pb pc lb lc).toArray, .bool b] ∧ O' = [rowI pb pc 5 1 (byts l.pre), rowI lb lc 5 1 (byts l.loop)] ++ OO ∧ FdR p.d al one two b l) := by
 refine CallT.enter func63 rfl ntmps63 rfl ?_
 have hvl := h.rows.1
 have hnn : p.d.next.length = p.next.length := rfl
 refine T.s (T.rg (TO.l rfl (l_box (v := (pV p k)) (cs := (pC p k)) rfl rfl (fun z1 => ?_))))
 refine TO.l rfl (l_box (v := fal) (cs := [fal]) rfl hfc (fun z2 => ?_))
 refine TO.l rfl (l_alloc inf28 rfl (fun z3 => ?_))
 refine TO.qa rfl (TO.nl (T.s (T.rg (TO.qa rfl (TO.nl (T.s (T.rg (TO.l rfl (l_makeMap KIn Value.bool (fun mq4 => ?_))))))))))
 refine TO.q (q_fa underlying25 rfl inf3 rfl rfl) (TO.q (q_lb 3 underlying3 rfl rfl rfl rfl) (TO.l rfl (l_mapInsert (a := p.start) (v := true) 0 underlying79 (KeyOk.int underlying3) rfl rfl rfl rfl (by simp) ?_)))
 refine TO.qm rfl (TO.l rfl (l_alloc inf79 rfl (fun z5 => ?_)))
 refine TO.l rfl (l_sb (v := (.map (some mq4))) (vs := [(.map (some mq4))]) 0 inf79 rfl rfl rfl rfl rfl rfl (by simp [putL]) ?_)
 refine TO.nl (T.s (T.s (T.rg (TO.q (q_fa underlying25 rfl inf3 rfl rfl) (TO.q (q_lb 4 underlying3 rfl rfl rfl rfl) (TO.l rfl (l_build1 (v := (vI p.start)) underlying23 inf3 rfl rfl rfl (fun z6 => ?_))))))))
 refine TO.qa rfl (TO.nl (T.block ?_))
 refine T.loopS (fun (i : Nat) ρ O => ∃ (tb : Option Addr) (tc : Nat), O = ([rowI tb tc 3 1 (nats ((bfsN p.d i).drop i)), oI z5 79 [(.map (some mq4))], mapI KIn Value.bool mq4 (rchM (bfsN p.d i)), oI z3 28 [nS, nS], oI z2 69 [fal], oI z1 25 (pC p k)] ++ OO) ∧ i ≤ (bfsN p.d i).length ∧ Heads [(0, (pV p k)), (1, fal), (2, fone), (3, ftwo), (4, (.pointer (aD z1))), (5, (.pointer (aD z2))), (8, (.pointer (aD z3))), (9, .bool false), (10, (.func (.func 84) #[] #[])), (11, (.pointer (aD z5))), (12, (.slice tb (((bfsN p.d i).drop i).length) tc))] ρ) (fun i => p.next.length + 1 - i) 0 ?_ ?_
 ·refine ⟨(aD z6), 1, ?_, Nat.zero_le _, (.of rfl)⟩
  rw [show rchM (bfsN p.d 0) = _ from rchM_zero hv, show nats ((bfsN p.d 0).drop 0) = _ from bfs_zero hv]; rfl
 rintro i ρ O ⟨tb, tc, rfl, hi, hH⟩
 obtain ⟨ρ0, rfl⟩ := hH.elim
 clear hH
 have hbl := bfsN_len (hv) i
 have hdl := List.length_drop (i := i) (l := bfsN p.d i)
 refine T.s (T.s (T.rg (TO.qm rfl (TO.q (q_len underlying23 rfl) (TO.q (q_gtr rfl rfl) (TO.nl (T.condP rfl (fun hc => ?_) (fun hc => ?_))))))))
 ·have hlt36 : ((bfsN p.d i).drop i).length > 0 := by omega
  have hil : i < (bfsN p.d i).length := by omega
  obtain ⟨s, hsi⟩ : ∃ s, (bfsN p.d i)[i]? = some s := ⟨_, List.getElem?_eq_getElem hil⟩
  have hsn : s < p.next.length := (bfsN_ok (hv) i).2 s (List.mem_of_getElem? hsi)
  have hd0 : (nats ((bfsN p.d i).drop i))[0]? = some (vI ((s : Nat) : Int)) := by rw [List.getElem?_map, List.getElem?_drop, Nat.add_zero, hsi]; rfl
  obtain ⟨v1, c1, g1, s1⟩ := h.rows.get hsn
  have hrl : p.next[s].length = letN p.d := hv.len _ (List.getElem_mem hsn)
  refine T.skip (T.s (T.block (T.s ?_)))
  refine T.draws _ [(0, 0), (1, 0), (2, 0), (3, 0), (4, 0), (5, 0), (6, 0), (7, 0), (8, 0)] mixed (by kernel_rfl) (Sub.of (List.Sublist.refl _)) (fun _ _ _ h => h) ?_
  refine DO.q rfl (q_fa underlying25 rfl inf22 rfl rfl) (DO.q rfl (q_lb 5 underlying22 rfl rfl rfl rfl) (DO.q rfl (q_move rfl) (DO.q rfl (q_ix (i := 0) underlying23 inf3 rfl rfl (rowO (mG 0 rfl)) (by omega) (by rw [List.length_map]; omega)) (DO.q rfl (q_ld underlying3 rfl rfl (rowO (mG 0 rfl)) hd0) (DO.q rfl (q_ix (i := s) underlying22 inf23 rfl rfl (Sl.o h.outer) hsn (hvl ▸ hsn)) (DO.q rfl (q_ld underlying23 rfl rfl (Sl.o h.outer) g1) (DO.q rfl (q_len underlying23 rfl) (DO.q rfl (q_move rfl) ?_))))))))
  refine DO.done ?_
  refine T.block ?_
  refine T.loopS (fun (x : Nat) ρ O => ∃ (tb : Option Addr) (tc : Nat), O = ([rowI tb tc 3 1 (nats ((bfsM p.d i s x).drop i)), oI z5 79 [(.map (some mq4))], mapI KIn Value.bool mq4 (rchM (bfsM p.d i s x)), oI z3 28 [nS, nS], oI z2 69 [fal], oI z1 25 (pC p k)] ++ OO) ∧ x ≤ letN p.d ∧ i < (bfsM p.d i s x).length ∧ Heads [(0, (pV p k)), (1, fal), (2, fone), (3, ftwo), (4, (.pointer (aD z1))), (5, (.pointer (aD z2))), (8, (.pointer (aD z3))), (9, .bool false), (10, (.func (.func 84) #[] #[])), (11, (.pointer (aD z5))), (12, (.slice tb (((bfsM p.d i s x).drop i).length) tc)), (45, (.slice v1 p.next[s].length c1)), (46, vI (p.next[s].length : Int)), (47, vI ((x : Nat) : Int))] ρ) (fun x => letN p.d - x) 0 ?_ ?_
  ·exact ⟨tb, tc, rfl, Nat.zero_le _, hil, (.of rfl)⟩
  rintro x ρ O ⟨tb, tc, rfl, hx, hil2, hH⟩
  obtain ⟨ρ0, rfl⟩ := hH.elim
  clear hH
  have hml := (bfsM_len hv (i := i) (o := s) (x := x) hsn hx).1
  have hdl2 := List.length_drop (i := i) (l := bfsM p.d i s x)
  refine T.s (T.rg (TO.q (q_lss rfl rfl) (TO.nl (T.s (T.condP rfl (fun hc => ?_) (fun hc => ?_))))))
  ·have hlt48 : x < p.next[s].length := by omega
   have hxl : x < letN p.d := by omega
   obtain ⟨hun, _, hxk1, hx1i⟩ := hv.toN_lt (show s < p.d.next.length from hsn) hxl
   have hx1 : (ints p.next[s])[x]? = some (vI ((toN p.d s x : Nat) : Int)) := (ints_get hxk1).trans (congrArg (fun a => some (Value.int .i64 a)) hx1i)
   refine T.skip (T.s (T.block (T.s (T.rg (TO.q (q_ix (i := x) underlying23 inf3 rfl rfl (Sl.o s1) hxk1 (by rw [List.length_map]; exact hxk1)) (TO.q (q_ld underlying3 rfl rfl (Sl.o s1) hx1) (TO.qa rfl (TO.nl (T.s (T.rg (TO.q (q_lb 1 underlying79 rfl rfl rfl rfl) (TO.qm rfl (TO.q (QT.cast (q_lookup (K := KIn) (V := Value.bool) (a := ((toN p.d s x : Nat) : Int)) underlying79 inf4 (KeyOk.int underlying3) rfl rfl (mG 2 rfl)) (v' := .bool (decide (toN p.d s x ∈ (bfsM p.d i s x)))) (by rw [← rchM_at (bfsM p.d i s x) (toN p.d s x)]; cases lookL ((toN p.d s x : Nat) : Int) (rchM (bfsM p.d i s x)) with | none => rfl | some b => cases b <;> rfl)) (TO.q (q_not rfl) (TO.nl (T.condP (p := toN p.d s x ∉ (bfsM p.d i s x)) (congrArg Value.bool (by rw [decide_not])) (fun hc => ?_) (fun hc => ?_)))))))))))))))))
   ·have hnew : toN p.d s x ∉ (bfsM p.d i s x) := hc
    refine T.s (T.rg (TO.q (q_lb 1 underlying79 rfl rfl rfl rfl) (TO.qm rfl (TO.l rfl (l_mapPut (K := KIn) (V := Value.bool) (a := ((toN p.d s x : Nat) : Int)) (v := true) 2 underlying79 (KeyOk.int underlying3) rfl rfl rfl rfl (rchM_new hnew) ?_)))))
    refine TO.nl (T.rg (TO.qm rfl (TO.qm rfl (TO.l rfl (l_build1 (v := vI ((toN p.d s x : Nat) : Int)) underlying23 inf3 rfl rfl rfl (fun z7 => ?_))))))
    refine TO.l rfl (l_append 1 underlying23 underlying23 inf3 rfl rfl rfl rfl (by simp) (by decide) (Src.row (j := 0) rfl (by simp)) (by simp [oneB]) (by omega) (by decide) (by decide) (fun z8 zc9 => ?_))
    refine TO.qa rfl (TO.nl (T.rg (TO.q (q_addN (a := x) (b := 1) rfl rfl (by omega)) (TO.qm rfl (TO.nl ?_)))))
    exact ⟨x + 1, by omega, ([rowI z8 zc9 3 1 ((nats ((bfsM p.d i s x).drop i)) ++ [vI ((toN p.d s x : Nat) : Int)]), oI z5 79 [(.map (some mq4))], mapI KIn Value.bool mq4 (rchM (bfsM p.d i s x) ++ [(((toN p.d s x : Nat) : Int), true)]), oI z3 28 [nS, nS], oI z2 69 [fal], oI z1 25 (pC p k)] ++ OO), (by exact Sub.d (.k (.k (.k (.k (.k (.k .rf))))))), z8, zc9, by rw [bfsM_step, add_new hnew, rchM_snoc, drop_snoc (by omega)]; simp only [List.map_append, List.map_cons, List.map_nil], by omega, by rw [bfsM_step, add_new hnew, List.length_append]; omega, ⟨rfl, rfl, rfl, rfl, rfl, rfl, rfl, rfl, rfl, rfl, (by rw [bfsM_step, add_new hnew, drop_snoc (by omega), List.length_append]; rfl), rfl, rfl, rfl, trivial⟩⟩
   have hold : toN p.d s x ∈ (bfsM p.d i s x) := Classical.not_not.1 hc
   refine T.skip (T.rg (TO.q (q_addN (a := x) (b := 1) rfl rfl (by omega)) (TO.qm rfl (TO.nl ?_))))
   exact ⟨x + 1, by omega, ([rowI tb tc 3 1 (nats ((bfsM p.d i s x).drop i)), oI z5 79 [(.map (some mq4))], mapI KIn Value.bool mq4 (rchM (bfsM p.d i s x)), oI z3 28 [nS, nS], oI z2 69 [fal], oI z1 25 (pC p k)] ++ OO), (by exact Sub.rf), tb, tc, by rw [bfsM_step, add_old hold], by omega, by rw [bfsM_step, add_old hold]; exact hil2, ⟨rfl, rfl, rfl, rfl, rfl, rfl, rfl, rfl, rfl, rfl, (by rw [bfsM_step, add_old hold]; rfl), rfl, rfl, rfl, trivial⟩⟩
  have hge48 : ¬ x < p.next[s].length := by omega
  refine T.exit ?_
  refine T.rg (TO.qm rfl (TO.l rfl (l_tail 0 underlying23 inf3 (by decide) rfl rfl rfl (by simp) (by omega) (fun z10 => ?_))))
  refine TO.qa rfl (TO.nl ?_)
  have hxe : x = letN p.d := by omega
  have e9 : bfsM p.d i s x = bfsN p.d (i + 1) := by rw [hxe]; exact bfsM_all hsi
  have e8 : (bfsN p.d (i + 1)).drop (i + 1) = ((bfsN p.d (i + 1)).drop i).drop 1 := by rw [List.drop_drop]
  exact ⟨i + 1, by omega, ([rowI z10 (tc - 1) 3 1 ((nats ((bfsM p.d i s x).drop i)).drop 1), oI z5 79 [(.map (some mq4))], mapI KIn Value.bool mq4 (rchM (bfsM p.d i s x)), oI z3 28 [nS, nS], oI z2 69 [fal], oI z1 25 (pC p k)] ++ OO), (by exact Sub.rf), z10, tc - 1, by rw [e9, e8, ← List.map_drop], by rw [← e9]; omega, ⟨rfl, rfl, rfl, rfl, rfl, rfl, rfl, rfl, rfl, rfl, (by rw [e9, List.length_drop, List.length_drop, Nat.sub_sub]; rfl), trivial⟩⟩
 have hge36 : ¬ ((bfsN p.d i).drop i).length > 0 := by omega
 refine T.exit ?_
 refine T.s ?_
 have hie : (bfsN p.d i).length = i := by omega
 have hord : order p.d = bfsN p.d i := order_eq hie (by have h9 : p.d.next.length = p.next.length := rfl; omega)
 refine T.rg (TO.q (q_makeFunc) (TO.qa rfl (TO.nl (T.s (T.s (T.rg (TO.q (q_la 5 underlying25 rfl inf25 rfl rfl rfl) ?_)))))))
 have hk64 := fun (w1 : World) (hI : Inv base ([rowI tb tc 3 1 (nats ((bfsN p.d i).drop i)), oI z5 79 [(.map (some mq4))], mapI KIn Value.bool mq4 (rchM (bfsN p.d i)), oI z3 28 [nS, nS], oI z2 69 [fal], oI z1 25 (pC p k)] ++ OO) w1) => (haveI := Inv.tab (P := Tryd.prog) hI; ofC w1 p k)
 refine TO.l rfl (l_call ent51 (CallT.op hk64) rfl ?_)
 clear hk64
 rintro vr O' ⟨N, rfl, gx, rfl, rfl⟩
 refine TO.qm rfl ?_
 have hk66 := CallT.atR (O := ([oI gx 25 (pC p k), rowI tb tc 3 1 (nats ((bfsN p.d i).drop i)), oI z5 79 [(.map (some mq4))], mapI KIn Value.bool mq4 (rchM (bfsN p.d i)), oI z3 28 [nS, nS], oI z2 69 [fal], oI z1 25 (pC p k)] ++ OO)) [rowI tb tc 3 1 (nats ((bfsN p.d i).drop i)), oI z3 28 [nS, nS], oI z1 25 (pC p k)] (componentsC base p k h hv hn hw (DE_lt hv) ([oI z5 79 [(.map (some mq4))], mapI KIn Value.bool mq4 (rchM (bfsN p.d i)), oI z2 69 [fal]] ++ OO) (alI p.d al) (.func (.func 85) #[] #[(.pointer (aD z5)), (.pointer (aD z2))]) rfl (fun u hu => CallV.of_fn (first := []) (args := [vI ((u : Nat) : Int)]) (caps := [(.pointer (aD z5)), (.pointer (aD z2))]) ent85 (hord ▸ insF base z5 mq4 z2 (bfsN p.d i) fal al OO u (hal u hu))) gx) (by exact Sub.pull [oI gx 25 (pC p k)] _ (.pull [oI gx 25 (pC p k), oI z5 79 [(.map (some mq4))], mapI KIn Value.bool mq4 (rchM (bfsN p.d i))] _ (.pull [oI gx 25 (pC p k), oI z5 79 [(.map (some mq4))], mapI KIn Value.bool mq4 (rchM (bfsN p.d i)), oI z2 69 [fal]] _ (.k (.k (.k (.k .rf)))))))
 refine TO.l rfl (l_call ent53 hk66 rfl ?_)
 clear hk66
 rintro vr O' ⟨A1, rfl, all, ab9, ac9, ps, rfl, rfl, hps, hpo⟩
 have hpl := parts_len hps
 have hfew := hpo.few
 refine TO.q (q_len underlying22 rfl) (TO.qm rfl (TO.nl (T.block ?_)))
 refine T.sub (O' := [rowI tb tc 3 1 (nats ((bfsN p.d i).drop i)), oI z3 28 [nS, nS], oI z1 25 (pC p k), rowI ab9 ac9 23 1 (vals ps), oI gx 25 (pC p k), oI z5 79 [(.map (some mq4))], mapI KIn Value.bool mq4 (rchM (bfsN p.d i)), oI z2 69 [fal]] ++ (itms 3 ps ++ OO)) (Sub.tailSwap Sub.rf) ?_
 refine T.loopS (fun (i3 : Nat) ρ O => O = ([rowI tb tc 3 1 (nats ((bfsN p.d i).drop i)), oI z3 28 [nS, nS], oI z1 25 (pC p k), rowI ab9 ac9 23 1 (vals ps), oI gx 25 (pC p k), oI z5 79 [(.map (some mq4))], mapI KIn Value.bool mq4 (rchM (bfsN p.d i)), oI z2 69 [fal]] ++ (itms 3 ps ++ OO)) ∧ i3 ≤ all.length ∧ FndI one two (all.take i3) ∧ Heads [(0, (pV p k)), (1, fal), (2, fone), (3, ftwo), (4, (.pointer (aD z1))), (5, (.pointer (aD z2))), (8, (.pointer (aD z3))), (9, .bool false), (10, (.func (.func 84) #[] #[])), (11, (.pointer (aD z5))), (12, (.slice tb (((bfsN p.d i).drop i).length) tc)), (15, (.func (.func 85) #[] #[(.pointer (aD z5)), (.pointer (aD z2))])), (66, (.slice ab9 ps.length ac9)), (67, vI (ps.length : Int)), (68, vI ((i3 : Nat) : Int))] ρ) (fun i3 => all.length - i3) 0 ?_ ?_
 ·exact ⟨rfl, Nat.zero_le _, (fun P hP => (List.not_mem_nil hP).elim), (.of rfl)⟩
 rintro i3 ρ O ⟨rfl, hi3, hF, hH⟩
 obtain ⟨ρ0, rfl⟩ := hH.elim
 clear hH
 refine T.s (T.rg (TO.q (q_lss rfl rfl) (TO.nl (T.s (T.condP rfl (fun hc => ?_) (fun hc => ?_))))))
 ·have hlt69 : i3 < ps.length := by omega
  have hil3 : i3 < all.length := by omega
  obtain ⟨l, hle⟩ : ∃ l, all[i3] = l := ⟨_, rfl⟩
  obtain ⟨rb9, rc9, hRi⟩ := part_rec hps hil3
  rw [hle] at hRi
  have hi2 : i3 < ps.length := by omega
  have hlm : l ∈ all := hle ▸ List.getElem_mem hil3
  have hsub := hpo.sub l hlm
  have hll : l.length ≤ 4096 := by
   have h1 := hpo.len
   have h2 : l.length ≤ all.flatten.length := (List.sublist_flatten_of_mem hlm).length_le
   omega
  have hly := intY_len l
  refine T.skip (T.s (T.block (T.s (T.rg ?_))))
  refine TO.q (q_ix (i := i3) underlying22 inf23 rfl rfl (rowO (mG 3 rfl)) hi2 (by rw [List.length_map]; exact hi2)) (TO.q (q_ld underlying23 rfl rfl (rowO (mG 3 rfl)) (by rw [List.getElem?_map, hRi]; rfl)) ?_)
  refine TO.l rfl (l_alloc inf23 rfl (fun z11 => ?_))
  refine TO.l rfl (l_sb (v := (.slice rb9 ((intY l).length) rc9)) (vs := [(.slice rb9 ((intY l).length) rc9)]) 0 inf23 rfl rfl rfl rfl rfl rfl (by simp [putL]) ?_)
  refine TO.nl (T.s (T.rg (TO.q (q_lb 0 underlying23 rfl rfl rfl rfl) (TO.qm rfl ?_))))
  have hk74 := indexFuncI base rb9 rc9 (intY l) ([oI z11 23 [(.slice rb9 ((intY l).length) rc9)], rowI tb tc 3 1 (nats ((bfsN p.d i).drop i)), oI z3 28 [nS, nS], oI z1 25 (pC p k), rowI ab9 ac9 23 1 (vals ps), oI gx 25 (pC p k), oI z5 79 [(.map (some mq4))], mapI KIn Value.bool mq4 (rchM (bfsN p.d i)), oI z2 69 [fal]] ++ (itms 3 ps ++ OO)) (fun w9 hI9 => by rw [ints_intY]; exact hI9.slOf (List.mem_append_right _ (List.mem_append_left _ (part_row hRi)))) (by omega) fone (fun x => decide (one x.toNat = true)) (fun x hx => by obtain ⟨u, hu, rfl⟩ := mem_intY hx; exact CallV.keepR ([oI z11 23 [(.slice rb9 ((intY l).length) rc9)], rowI tb tc 3 1 (nats ((bfsN p.d i).drop i)), oI z3 28 [nS, nS], oI z1 25 (pC p k), rowI ab9 ac9 23 1 (vals ps), oI gx 25 (pC p k), oI z5 79 [(.map (some mq4))], mapI KIn Value.bool mq4 (rchM (bfsN p.d i)), oI z2 69 [fal]] ++ itms 3 ps) (hone u (hsub u hu).1))
  refine TO.l rfl (l_call ent76 hk74 rfl ?_)
  clear hk74
  rintro vr O' ⟨i9, rfl, hi9, e9⟩
  rw [e9]
  clear e9
  refine TO.qa rfl (TO.nl (T.s (T.s (T.rg (TO.qm rfl ?_)))))
  by_cases h76 : i9 < 0
  ·refine TO.q (QT.toB (q_lss rfl rfl) (decide_eq_true h76)) ?_
   refine TO.qm rfl (TO.pd rfl rfl (TO.pd rfl rfl (TO.pd rfl rfl (TO.pd rfl rfl (TO.q (q_pick1 rfl rfl) (TO.nl ?_))))))
   refine T.cond1 rfl ?_
   refine T.exit ?_
   refine T.rg (TO.q (q_addN (a := i3) (b := 1) rfl rfl (by omega)) (TO.qm rfl (TO.nl ?_)))
   exact ⟨i3 + 1, by omega, ([rowI tb tc 3 1 (nats ((bfsN p.d i).drop i)), oI z3 28 [nS, nS], oI z1 25 (pC p k), rowI ab9 ac9 23 1 (vals ps), oI gx 25 (pC p k), oI z5 79 [(.map (some mq4))], mapI KIn Value.bool mq4 (rchM (bfsN p.d i)), oI z2 69 [fal]] ++ (itms 3 ps ++ OO)), (by exact Sub.d (.k (.k (.k (.k (.k (.k (.k (.k .rf))))))))), rfl, by omega, hF.step hil3 (by rw [hle]; first | exact (fun g => hno2 g.2) | exact (fun g => no_any (hi9.resolve_right (fun ⟨k9, hk9, e9, _⟩ => by omega)).2 g.1)), (.of rfl)⟩
  refine TO.q (QT.toB (q_lss rfl rfl) (decide_eq_false h76)) (TO.qm rfl (TO.gq rfl rfl (q_lb 0 underlying23 rfl rfl rfl rfl) (TO.gq rfl rfl (q_move rfl) ?_)))
  have hk80 := containsFuncI base rb9 rc9 (intY l) ([oI z11 23 [(.slice rb9 ((intY l).length) rc9)], rowI tb tc 3 1 (nats ((bfsN p.d i).drop i)), oI z3 28 [nS, nS], oI z1 25 (pC p k), rowI ab9 ac9 23 1 (vals ps), oI gx 25 (pC p k), oI z5 79 [(.map (some mq4))], mapI KIn Value.bool mq4 (rchM (bfsN p.d i)), oI z2 69 [fal]] ++ (itms 3 ps ++ OO)) (fun w9 hI9 => by rw [ints_intY]; exact hI9.slOf (List.mem_append_right _ (List.mem_append_left _ (part_row hRi)))) (by omega) ftwo (fun x => decide (two x.toNat = true)) (fun x hx => by obtain ⟨u, hu, rfl⟩ := mem_intY hx; exact CallV.keepR ([oI z11 23 [(.slice rb9 ((intY l).length) rc9)], rowI tb tc 3 1 (nats ((bfsN p.d i).drop i)), oI z3 28 [nS, nS], oI z1 25 (pC p k), rowI ab9 ac9 23 1 (vals ps), oI gx 25 (pC p k), oI z5 79 [(.map (some mq4))], mapI KIn Value.bool mq4 (rchM (bfsN p.d i)), oI z2 69 [fal]] ++ itms 3 ps) (htwo u (hsub u hu).1))
  refine TO.gd rfl rfl rfl (l_call ent46 hk80 rfl ?_)
  clear hk80
  rintro vr O' ⟨rfl, e9⟩
  rw [e9]
  clear e9
  refine TO.gq rfl rfl (q_not rfl) (TO.q (q_pick0 rfl rfl) (TO.nl (T.condP (p := ¬ ((intY l).any fun x => decide (two x.toNat = true)) = true) (congrArg Value.bool (by cases (intY l).any fun x => decide (two x.toNat = true) <;> rfl)) (fun hc => ?_) (fun hc => ?_))))
  ·have hno2 : ¬ ∃ v ∈ l, two v = true := no_any (Bool.eq_false_iff.2 hc)
   refine T.exit ?_
   refine T.rg (TO.q (q_addN (a := i3) (b := 1) rfl rfl (by omega)) (TO.qm rfl (TO.nl ?_)))
   exact ⟨i3 + 1, by omega, ([rowI tb tc 3 1 (nats ((bfsN p.d i).drop i)), oI z3 28 [nS, nS], oI z1 25 (pC p k), rowI ab9 ac9 23 1 (vals ps), oI gx 25 (pC p k), oI z5 79 [(.map (some mq4))], mapI KIn Value.bool mq4 (rchM (bfsN p.d i)), oI z2 69 [fal]] ++ (itms 3 ps ++ OO)), (by exact Sub.d (.k (.k (.k (.k (.k (.k (.k (.k .rf))))))))), rfl, by omega, hF.step hil3 (by rw [hle]; first | exact (fun g => hno2 g.2) | exact (fun g => no_any (hi9.resolve_right (fun ⟨k9, hk9, e9, _⟩ => by omega)).2 g.1)), (.of rfl)⟩
  obtain ⟨u9, hu9, htw9⟩ := yes_any (Classical.not_not.1 hc)
  obtain ⟨k9, hk9, rfl, hon9, _⟩ : ∃ (k9 : Nat) (hk : k9 < (intY l).length), i9 = (k9 : Int) ∧ decide (one ((intY l)[k9]).toNat = true) = true ∧ ((intY l).take k9).any (fun x => decide (one x.toNat = true)) = false := hi9.resolve_left (fun g => by omega)
  have hk9l : k9 < l.length := by omega
  obtain ⟨s9, hs9⟩ : ∃ s9, l[k9] = s9 := ⟨_, rfl⟩
  have hs9l : s9 ∈ l := hs9 ▸ List.getElem_mem hk9l
  have hon : one s9 = true := by rw [intY_get hk9, Int.toNat_natCast, hs9] at hon9; exact of_decide_eq_true hon9
  have hs9n := (hsub s9 hs9l).1
  have hgs : (nats l)[k9]? = some (vI ((s9 : Nat) : Int)) := by rw [← hs9]; exact nats_get hk9l
  refine T.skip (T.s (T.rg (TO.q (q_lb 0 underlying23 rfl rfl rfl rfl) (TO.qm rfl (TO.q (q_ix (i := k9) underlying23 inf3 rfl rfl (fun w9 hI9 => hI9.slOf (List.mem_append_right _ (List.mem_append_left _ (part_row hRi)))) (by omega) (by rw [List.length_map]; omega)) (TO.q (q_ld underlying3 rfl rfl (fun w9 hI9 => hI9.slOf (List.mem_append_right _ (List.mem_append_left _ (part_row hRi)))) hgs) (TO.l rfl (l_alloc inf3 rfl (fun z12 => ?_)))))))))
  refine TO.l rfl (l_sb (v := vI ((s9 : Nat) : Int)) (vs := [(vI ((s9 : Nat) : Int))]) 0 inf3 rfl rfl rfl rfl rfl rfl (by simp [putL]) ?_)
  refine TO.nl (T.s (T.rg (TO.q (q_makeFunc) (TO.qa rfl (TO.nl (T.s (T.rg (TO.q (q_fa underlying25 rfl inf22 rfl rfl) (TO.q (q_lb 4 underlying22 rfl rfl rfl rfl) (TO.q (q_fa underlying25 rfl inf3 rfl rfl) (TO.q (q_lb 4 underlying3 rfl rfl rfl rfl) (TO.qm rfl (TO.q (q_makeFunc) ?_)))))))))))))
  have hk95 := CallT.arg2 (Int.toNat_of_nonneg hv.s0) (CallT.atR (O := ([oI z12 3 [(vI ((s9 : Nat) : Int))], oI z11 23 [(.slice rb9 ((intY l).length) rc9)], rowI tb tc 3 1 (nats ((bfsN p.d i).drop i)), oI z3 28 [nS, nS], oI z1 25 (pC p k), rowI ab9 ac9 23 1 (vals ps), oI gx 25 (pC p k), oI z5 79 [(.map (some mq4))], mapI KIn Value.bool mq4 (rchM (bfsN p.d i)), oI z2 69 [fal]] ++ (itms 3 ps ++ OO))) [oI z11 23 [(.slice rb9 ((intY l).length) rc9)], rowI tb tc 3 1 (nats ((bfsN p.d i).drop i)), oI z3 28 [nS, nS], oI z1 25 (pC p k), rowI ab9 ac9 23 1 (vals ps), oI gx 25 (pC p k), oI z5 79 [(.map (some mq4))], mapI KIn Value.bool mq4 (rchM (bfsN p.d i)), oI z2 69 [fal]] (pathF base p.d k.nb k.nc (vals k.qs) h.outer h.rows hv hn hw ([oI z12 3 [(vI ((s9 : Nat) : Int))]] ++ (itms 3 ps ++ OO)) (fun _ => true) (fun u => decide (u = s9)) (.func (.func 84) #[] #[]) (.func (.func 88) #[] #[(.pointer (aD z12))]) (fun u _ => CallV.keepA (CallV.of_fn (first := []) (args := [vI ((u : Nat) : Int)]) (caps := []) ent84 (anyF base u))) (fun u _ => CallV.pick [0] [oI z12 3 [(vI ((s9 : Nat) : Int))]] (itms 3 ps ++ OO) [oI z12 3 [(vI ((s9 : Nat) : Int))]] rfl (CallV.of_fn (first := []) (args := [vI ((u : Nat) : Int)]) (caps := [(.pointer (aD z12))]) ent88 (eqF4 base z12 s9 u))) p.d.start.toNat (start_lt (hv)) (find_way1 hv hpo hlm hs9l)) (by exact Sub.pull [oI z12 3 [(vI ((s9 : Nat) : Int))]] _ (.pull [oI z12 3 [(vI ((s9 : Nat) : Int))]] _ (.pull [oI z12 3 [(vI ((s9 : Nat) : Int))]] _ (.pull [oI z12 3 [(vI ((s9 : Nat) : Int))]] _ (.pull [oI z12 3 [(vI ((s9 : Nat) : Int))]] _ (.pull [oI z12 3 [(vI ((s9 : Nat) : Int))]] _ (.pull [oI z12 3 [(vI ((s9 : Nat) : Int))]] _ (.pull [oI z12 3 [(vI ((s9 : Nat) : Int))]] _ (.pull [oI z12 3 [(vI ((s9 : Nat) : Int))]] _ (.k .rf)))))))))))
  refine TO.l rfl (l_call ent87 hk95 rfl ?_)
  clear hk95
  rintro vr O' ⟨A1, rfl, y1, t1, wb1, wc1, hw1, rfl, rfl⟩
  have ht1 : t1 = s9 := of_decide_eq_true hw1.to_
  rw [ht1] at hw1
  have hl1 := PathR.small (d := p.d) (by omega) hw1
  refine TO.qm rfl (TO.q (q_extract (vs := _) rfl rfl) (TO.q (q_extract (vs := _) rfl rfl) (TO.qa rfl (TO.qa rfl (TO.nl (T.s (T.rg (TO.q (q_fa underlying25 rfl inf22 rfl rfl) (TO.q (q_lb 3 underlying22 rfl rfl rfl rfl) (TO.q (q_lb 10 underlying3 rfl rfl rfl rfl) (TO.qm rfl (TO.qm rfl ?_))))))))))))
  have hk104 := CallT.atR (O := ([oI z11 23 [(.slice rb9 ((intY l).length) rc9)], rowI tb tc 3 1 (nats ((bfsN p.d i).drop i)), oI z3 28 [nS, nS], oI z1 25 (pC p k), rowI ab9 ac9 23 1 (vals ps), oI gx 25 (pC p k), oI z5 79 [(.map (some mq4))], mapI KIn Value.bool mq4 (rchM (bfsN p.d i)), oI z2 69 [fal], rowI wb1 wc1 5 1 (byts y1), oI z12 3 [(vI ((s9 : Nat) : Int))]] ++ (itms 3 ps ++ OO))) [rowI tb tc 3 1 (nats ((bfsN p.d i).drop i)), oI z3 28 [nS, nS], oI z1 25 (pC p k), rowI ab9 ac9 23 1 (vals ps), oI gx 25 (pC p k), oI z5 79 [(.map (some mq4))], mapI KIn Value.bool mq4 (rchM (bfsN p.d i)), oI z2 69 [fal], rowI wb1 wc1 5 1 (byts y1), oI z12 3 [(vI ((s9 : Nat) : Int))]] (pathF base p.d k.nb k.nc (vals k.qs) h.outer h.rows hv hn hw ([oI z11 23 [(.slice rb9 ((intY l).length) rc9)]] ++ (itms 3 ps ++ OO)) (fun u => decide (u ∈ l)) two (.func (.func 86) #[] #[(.pointer (aD z11))]) ftwo (fun u _ => CallV.of_fn (first := []) (args := [vI ((u : Nat) : Int)]) (caps := [(.pointer (aD z11))]) ent86 (inF2 base z11 rb9 rc9 l (intY l).length hly (by omega) (itms 3 ps ++ OO) (fun w9 hI9 => hI9.slOf (List.mem_append_right _ (List.mem_append_left _ (part_row hRi)))) u)) (fun u hu => CallV.keepR ([oI z11 23 [(.slice rb9 ((intY l).length) rc9)]] ++ itms 3 ps) (htwo u hu)) s9 hs9n (find_way2 hv hpo hlm hs9l hu9 htw9 false)) (by exact Sub.pull [oI z11 23 [(.slice rb9 ((intY l).length) rc9)]] _ (.pull [oI z11 23 [(.slice rb9 ((intY l).length) rc9)]] _ (.pull [oI z11 23 [(.slice rb9 ((intY l).length) rc9)]] _ (.pull [oI z11 23 [(.slice rb9 ((intY l).length) rc9)]] _ (.pull [oI z11 23 [(.slice rb9 ((intY l).length) rc9)]] _ (.pull [oI z11 23 [(.slice rb9 ((intY l).length) rc9)]] _ (.pull [oI z11 23 [(.slice rb9 ((intY l).length) rc9)]] _ (.pull [oI z11 23 [(.slice rb9 ((intY l).length) rc9)]] _ (.pull [oI z11 23 [(.slice rb9 ((intY l).length) rc9)]] _ (.pull [oI z11 23 [(.slice rb9 ((intY l).length) rc9)]] _ (.k .rf)))))))))))
  refine TO.l rfl (l_call ent87 hk104 rfl ?_)
  clear hk104
  rintro vr O' ⟨A1, rfl, y2, t2, wb2, wc2, hw2, rfl, rfl⟩
  have hl2 := PathR.small (d := p.d) (by omega) hw2
  have ht2l : t2 ∈ l := by
   by_cases e : y2 = []
   ·have h9 := hw2.run; rw [e] at h9; exact (show s9 = t2 from h9) ▸ hs9l
   ·have h9 := last_vis p.d y2 s9 e; rw [hw2.run] at h9; exact of_decide_eq_true (hw2.vis _ h9)
  have ht2n := (hsub t2 ht2l).1
  refine TO.qm rfl (TO.q (q_extract (vs := _) rfl rfl) (TO.q (q_extract (vs := _) rfl rfl) (TO.qa rfl (TO.qa rfl (TO.nl (T.s (T.rg (TO.q (q_fa underlying25 rfl inf22 rfl rfl) (TO.q (q_lb 2 underlying22 rfl rfl rfl rfl) (TO.qm rfl (TO.qm rfl (TO.q (q_lb 9 underlying3 rfl rfl rfl rfl) ?_))))))))))))
  by_cases h113 : ((t2 : Nat) : Int) = ((s9 : Nat) : Int)
  ·refine TO.q (QT.toB (q_eql rfl rfl) (decide_eq_true h113)) ?_
   refine TO.qm rfl (TO.q (q_makeFunc) ?_)
   have hk116 := CallT.atR (O := ([rowI tb tc 3 1 (nats ((bfsN p.d i).drop i)), oI z3 28 [nS, nS], oI z1 25 (pC p k), rowI ab9 ac9 23 1 (vals ps), oI gx 25 (pC p k), oI z5 79 [(.map (some mq4))], mapI KIn Value.bool mq4 (rchM (bfsN p.d i)), oI z2 69 [fal], rowI wb1 wc1 5 1 (byts y1), oI z12 3 [(vI ((s9 : Nat) : Int))], rowI wb2 wc2 5 1 (byts y2), oI z11 23 [(.slice rb9 ((intY l).length) rc9)]] ++ (itms 3 ps ++ OO))) [rowI tb tc 3 1 (nats ((bfsN p.d i).drop i)), oI z3 28 [nS, nS], oI z1 25 (pC p k), rowI ab9 ac9 23 1 (vals ps), oI gx 25 (pC p k), oI z5 79 [(.map (some mq4))], mapI KIn Value.bool mq4 (rchM (bfsN p.d i)), oI z2 69 [fal], rowI wb1 wc1 5 1 (byts y1), rowI wb2 wc2 5 1 (byts y2)] (pathT base p.d k.nb k.nc (vals k.qs) h.outer h.rows hv hn hw ([oI z11 23 [(.slice rb9 ((intY l).length) rc9)], oI z12 3 [(vI ((s9 : Nat) : Int))]] ++ (itms 3 ps ++ OO)) (fun u => decide (u ∈ l)) (fun u => decide (u = s9)) (.func (.func 86) #[] #[(.pointer (aD z11))]) (.func (.func 89) #[] #[(.pointer (aD z12))]) (fun u _ => CallV.of_fn (first := []) (args := [vI ((u : Nat) : Int)]) (caps := [(.pointer (aD z11))]) ent86 (inF2 base z11 rb9 rc9 l (intY l).length hly (by omega) ([oI z12 3 [(vI ((s9 : Nat) : Int))]] ++ (itms 3 ps ++ OO)) (fun w9 hI9 => hI9.slOf (List.mem_append_right _ (List.mem_append_right _ (List.mem_append_left _ (part_row hRi))))) u)) (fun u _ => CallV.pick [1] [oI z11 23 [(.slice rb9 ((intY l).length) rc9)], oI z12 3 [(vI ((s9 : Nat) : Int))]] (itms 3 ps ++ OO) [oI z12 3 [(vI ((s9 : Nat) : Int))]] rfl (CallV.of_fn (first := []) (args := [vI ((u : Nat) : Int)]) (caps := [(.pointer (aD z12))]) ent89 (eqF5 base z12 s9 u))) t2 ht2n (find_way2 hv hpo hlm ht2l hs9l (decide_eq_true rfl) true)) (by exact Sub.k (.k (.k (.k (.k (.k (.k (.k (.k (.pull [oI z12 3 [(vI ((s9 : Nat) : Int))]] _ (.pull [oI z12 3 [(vI ((s9 : Nat) : Int))]] _ (.k .rf))))))))))))
   refine TO.l rfl (l_call ent87 hk116 rfl ?_)
   clear hk116
   rintro vr O' ⟨A1, rfl, y3, t3_, wb3, wc3, hw3, rfl, rfl⟩
   have ht3 : t3_ = s9 := of_decide_eq_true hw3.to_
   rw [ht3] at hw3
   have hl3 := PathR.small (d := p.d) (by omega) hw3
   refine TO.qm rfl (TO.q (q_extract (vs := _) rfl rfl) (TO.q (q_extract (vs := _) rfl rfl) (TO.qa rfl (TO.qa rfl (TO.nl (T.s ?_))))))
   have hpos3 : 0 < y2.length + y3.length := by
    by_cases e : t2 = s9
    ·have := hw3.ne (by first | rfl | exact absurd (show ((t2 : Nat) : Int) = ((s9 : Nat) : Int) by omega) h113); have := List.length_pos_iff.2 this; omega
    ·have : y3 ≠ [] := fun e9 => by have h9 := hw3.run; rw [e9] at h9; exact e h9
     have := List.length_pos_iff.2 this; omega
   have hLB : LaB ⟨y1, y2 ++ y3⟩ := ⟨by show y1.length ≤ 1000000; omega, by show (y2 ++ y3).length ≤ 1000000; rw [List.length_append]; omega, fun x hx => by have := hw1.wd x hx; omega, fun x hx => by rcases List.mem_append.1 hx with hx | hx; (have := hw2.wd x hx; omega); (have := hw3.wd x hx; omega)⟩
   refine T.rg (TO.qm rfl (TO.qm rfl (TO.qm rfl (TO.l rfl (l_append 9 underlying26 underlying26 inf5 rfl rfl rfl rfl (by simp) (by decide) (Src.row (j := 10) rfl (by simp)) (by simp [oneB]) (by omega) (by decide) (by decide) (fun z13 zc14 => ?_))))))
   refine TO.q (q_build (cs := [(.slice wb1 y1.length wc1), (.slice z13 (y2.length + y3.length) zc14)]) plan28 inf28 (by kernel_rfl)) ?_
   have hk124 := fun (w1 : World) (hI : Inv base ([rowI tb tc 3 1 (nats ((bfsN p.d i).drop i)), oI z3 28 [nS, nS], oI z1 25 (pC p k), rowI ab9 ac9 23 1 (vals ps), oI gx 25 (pC p k), oI z5 79 [(.map (some mq4))], mapI KIn Value.bool mq4 (rchM (bfsN p.d i)), oI z2 69 [fal], rowI wb1 wc1 5 1 (byts y1), rowI z13 zc14 5 1 ((byts y2) ++ (byts y3)), rowI wb3 wc3 5 1 (byts y3), oI z11 23 [(.slice rb9 ((intY l).length) rc9)], oI z12 3 [(vI ((s9 : Nat) : Int))]] ++ (itms 3 ps ++ OO)) w1) => (haveI := Inv.tab (P := Tryd.prog) hI; canonicalA w1 y1 y2 y3 wb1 z13 wc1 zc14 (LaAt.rows (hI.row (i := 8) rfl) (by show rowP _ _ _ 1 (byts (y2 ++ y3)) w1; rw [show byts (y2 ++ y3) = byts y2 ++ byts y3 from List.map_append]; exact hI.row (i := 9) rfl)) hLB (by show 0 < (y2 ++ y3).length; rw [List.length_append]; have := hpos3; omega))
   refine TO.l rfl (l_call ent90 (CallT.op hk124) rfl ?_)
   clear hk124
   rintro vr O' ⟨N, rfl, c9, pb9, lb9, pc9, lc9, rfl, rfl, hcan⟩
   refine TO.l rfl (l_sb (v := (.agg #[(.slice pb9 c9.pre.length pc9), (.slice lb9 c9.loop.length lc9)])) (vs := [(.slice pb9 c9.pre.length pc9), (.slice lb9 c9.loop.length lc9)]) 3 inf28 rfl rfl rfl rfl rfl rfl (by simp [putL]) ?_)
   refine TO.qa rfl (TO.nl (T.ret (Res.drop ?_)))
   refine Res.cell1b (.bool true) (i := 3) Tryd.results63 underlying28 rfl inf28 rfl rfl rfl rfl ?_
   exact ⟨[rowI pb9 pc9 5 1 (byts c9.pre), rowI lb9 lc9 5 1 (byts c9.loop)] ++ OO, Sub.dropMid (by exact Sub.k (.k (.d (.d (.d (.d (.d (.d (.d (.d (.d (.d (.d (.d (.d .rf))))))))))))))), true, c9, pb9, pc9, lb9, lc9, rfl, rfl, find_some hv hpo hlm hs9l hon hw1 hw2 (by rw [decide_eq_true (show t2 = s9 by omega)]; exact hw3) hcan⟩
  refine TO.q (QT.toB (q_eql rfl rfl) (decide_eq_false h113)) (TO.qm rfl (TO.q (q_makeFunc) ?_))
  have hk116 := CallT.atR (O := ([rowI tb tc 3 1 (nats ((bfsN p.d i).drop i)), oI z3 28 [nS, nS], oI z1 25 (pC p k), rowI ab9 ac9 23 1 (vals ps), oI gx 25 (pC p k), oI z5 79 [(.map (some mq4))], mapI KIn Value.bool mq4 (rchM (bfsN p.d i)), oI z2 69 [fal], rowI wb1 wc1 5 1 (byts y1), oI z12 3 [(vI ((s9 : Nat) : Int))], rowI wb2 wc2 5 1 (byts y2), oI z11 23 [(.slice rb9 ((intY l).length) rc9)]] ++ (itms 3 ps ++ OO))) [rowI tb tc 3 1 (nats ((bfsN p.d i).drop i)), oI z3 28 [nS, nS], oI z1 25 (pC p k), rowI ab9 ac9 23 1 (vals ps), oI gx 25 (pC p k), oI z5 79 [(.map (some mq4))], mapI KIn Value.bool mq4 (rchM (bfsN p.d i)), oI z2 69 [fal], rowI wb1 wc1 5 1 (byts y1), rowI wb2 wc2 5 1 (byts y2)] (pathF base p.d k.nb k.nc (vals k.qs) h.outer h.rows hv hn hw ([oI z11 23 [(.slice rb9 ((intY l).length) rc9)], oI z12 3 [(vI ((s9 : Nat) : Int))]] ++ (itms 3 ps ++ OO)) (fun u => decide (u ∈ l)) (fun u => decide (u = s9)) (.func (.func 86) #[] #[(.pointer (aD z11))]) (.func (.func 89) #[] #[(.pointer (aD z12))]) (fun u _ => CallV.of_fn (first := []) (args := [vI ((u : Nat) : Int)]) (caps := [(.pointer (aD z11))]) ent86 (inF2 base z11 rb9 rc9 l (intY l).length hly (by omega) ([oI z12 3 [(vI ((s9 : Nat) : Int))]] ++ (itms 3 ps ++ OO)) (fun w9 hI9 => hI9.slOf (List.mem_append_right _ (List.mem_append_right _ (List.mem_append_left _ (part_row hRi))))) u)) (fun u _ => CallV.pick [1] [oI z11 23 [(.slice rb9 ((intY l).length) rc9)], oI z12 3 [(vI ((s9 : Nat) : Int))]] (itms 3 ps ++ OO) [oI z12 3 [(vI ((s9 : Nat) : Int))]] rfl (CallV.of_fn (first := []) (args := [vI ((u : Nat) : Int)]) (caps := [(.pointer (aD z12))]) ent89 (eqF5 base z12 s9 u))) t2 ht2n (find_way2 hv hpo hlm ht2l hs9l (decide_eq_true rfl) false)) (by exact Sub.k (.k (.k (.k (.k (.k (.k (.k (.k (.pull [oI z12 3 [(vI ((s9 : Nat) : Int))]] _ (.pull [oI z12 3 [(vI ((s9 : Nat) : Int))]] _ (.k .rf))))))))))))
  refine TO.l rfl (l_call ent87 hk116 rfl ?_)
  clear hk116
  rintro vr O' ⟨A1, rfl, y3, t3_, wb3, wc3, hw3, rfl, rfl⟩
  have ht3 : t3_ = s9 := of_decide_eq_true hw3.to_
  rw [ht3] at hw3
  have hl3 := PathR.small (d := p.d) (by omega) hw3
  refine TO.qm rfl (TO.q (q_extract (vs := _) rfl rfl) (TO.q (q_extract (vs := _) rfl rfl) (TO.qa rfl (TO.qa rfl (TO.nl (T.s ?_))))))
  have hpos3 : 0 < y2.length + y3.length := by
   by_cases e : t2 = s9
   ·have := hw3.ne (by first | rfl | exact absurd (show ((t2 : Nat) : Int) = ((s9 : Nat) : Int) by omega) h113); have := List.length_pos_iff.2 this; omega
   ·have : y3 ≠ [] := fun e9 => by have h9 := hw3.run; rw [e9] at h9; exact e h9
    have := List.length_pos_iff.2 this; omega
  have hLB : LaB ⟨y1, y2 ++ y3⟩ := ⟨by show y1.length ≤ 1000000; omega, by show (y2 ++ y3).length ≤ 1000000; rw [List.length_append]; omega, fun x hx => by have := hw1.wd x hx; omega, fun x hx => by rcases List.mem_append.1 hx with hx | hx; (have := hw2.wd x hx; omega); (have := hw3.wd x hx; omega)⟩
  refine T.rg (TO.qm rfl (TO.qm rfl (TO.qm rfl (TO.l rfl (l_append 9 underlying26 underlying26 inf5 rfl rfl rfl rfl (by simp) (by decide) (Src.row (j := 10) rfl (by simp)) (by simp [oneB]) (by omega) (by decide) (by decide) (fun z15 zc16 => ?_))))))
  refine TO.q (q_build (cs := [(.slice wb1 y1.length wc1), (.slice z15 (y2.length + y3.length) zc16)]) plan28 inf28 (by kernel_rfl)) ?_
  have hk124 := fun (w1 : World) (hI : Inv base ([rowI tb tc 3 1 (nats ((bfsN p.d i).drop i)), oI z3 28 [nS, nS], oI z1 25 (pC p k), rowI ab9 ac9 23 1 (vals ps), oI gx 25 (pC p k), oI z5 79 [(.map (some mq4))], mapI KIn Value.bool mq4 (rchM (bfsN p.d i)), oI z2 69 [fal], rowI wb1 wc1 5 1 (byts y1), rowI z15 zc16 5 1 ((byts y2) ++ (byts y3)), rowI wb3 wc3 5 1 (byts y3), oI z11 23 [(.slice rb9 ((intY l).length) rc9)], oI z12 3 [(vI ((s9 : Nat) : Int))]] ++ (itms 3 ps ++ OO)) w1) => (haveI := Inv.tab (P := Tryd.prog) hI; canonicalA w1 y1 y2 y3 wb1 z15 wc1 zc16 (LaAt.rows (hI.row (i := 8) rfl) (by show rowP _ _ _ 1 (byts (y2 ++ y3)) w1; rw [show byts (y2 ++ y3) = byts y2 ++ byts y3 from List.map_append]; exact hI.row (i := 9) rfl)) hLB (by show 0 < (y2 ++ y3).length; rw [List.length_append]; have := hpos3; omega))
  refine TO.l rfl (l_call ent90 (CallT.op hk124) rfl ?_)
  clear hk124
  rintro vr O' ⟨N, rfl, c9, pb9, lb9, pc9, lc9, rfl, rfl, hcan⟩
  refine TO.l rfl (l_sb (v := (.agg #[(.slice pb9 c9.pre.length pc9), (.slice lb9 c9.loop.length lc9)])) (vs := [(.slice pb9 c9.pre.length pc9), (.slice lb9 c9.loop.length lc9)]) 3 inf28 rfl rfl rfl rfl rfl rfl (by simp [putL]) ?_)
  refine TO.qa rfl (TO.nl (T.ret (Res.drop ?_)))
  refine Res.cell1b (.bool true) (i := 3) Tryd.results63 underlying28 rfl inf28 rfl rfl rfl rfl ?_
  exact ⟨[rowI pb9 pc9 5 1 (byts c9.pre), rowI lb9 lc9 5 1 (byts c9.loop)] ++ OO, Sub.dropMid (by exact Sub.k (.k (.d (.d (.d (.d (.d (.d (.d (.d (.d (.d (.d (.d (.d .rf))))))))))))))), true, c9, pb9, pc9, lb9, lc9, rfl, rfl, find_some hv hpo hlm hs9l hon hw1 hw2 (by rw [decide_eq_false (show ¬ t2 = s9 by omega)]; exact hw3) hcan⟩
 have hge69 : ¬ i3 < ps.length := by omega
 refine T.exit ?_
 refine T.s (T.nilRow 5 1 (T.nilRow 5 1 ?_))
 refine T.rg (TO.q (q_build plan28 inf28 rfl) (TO.l rfl (l_sb (v := (.agg #[nS, nS])) (vs := [nS, nS]) 3 inf28 rfl rfl rfl rfl rfl rfl (by simp [putL]) ?_)))
 refine TO.qa rfl (TO.nl (T.ret (Res.drop ?_)))
 refine Res.cell1b (.bool false) (i := 3) Tryd.results63 underlying28 rfl inf28 rfl rfl rfl rfl ?_
 have hie3 : all.take i3 = all := List.take_of_length_le (by omega)
 rw [hie3] at hF
 exact ⟨[rowI none 0 5 1 [], rowI none 0 5 1 []] ++ OO, Sub.dropMid (by exact Sub.k (.k (.d (.d (.d (.d (.d (.d (.d (.d .rf)))))))))), false, ⟨[], []⟩, none, 0, none, 0, rfl, rfl, ⟨rfl, find_none hv hpo hF⟩⟩
end Go.Proofs.YtnikhiohindggaaDoor


namespace Go.Proofs.YtnikhiohindggaaDoor
open Go.Lx Go.RowKit _root_.Go.Proofs.Tryd
theorem findC (base : World) [Tab Tryd.prog base] (p : Par) (k : DK) (h : AtP base p k) (hv : Val p.d) (hn : p.next.length ≤ 4096) (hw : letN p.d ≤ 64) (OO : List Lx.Item) (al one two : Nat → Bool) (fal fone ftwo : Value) (hfc : fal.cells = #[fal]) (hal : ∀ u, u < p.next.length → CallV Tryd.prog base fal [vI ((u : Nat) : Int)] OO (fun v O' => v = .bool (decide (al u = true)) ∧ O' = OO)) (hone : ∀ u, u < p.next.length → CallV Tryd.prog base fone [vI ((u : Nat) : Int)] OO (fun v O' => v = .bool (decide (one u = true)) ∧ O' = OO)) (htwo : ∀ u, u < p.next.length → CallV Tryd.prog base ftwo [vI ((u : Nat) : Int)] OO (fun v O' => v = .bool (decide (two u = true)) ∧ O' = OO)) :
  CallT Tryd.prog base 63 [pV p k, fal, fone, ftwo] OO (fun v O' => ∃ b l kl, v = .tuple #[lV l kl, .bool b] ∧ O' = lI 5 l kl :: OO ∧ FdR p.d al one two b l) :=
 (findC0 base p k h hv hn hw OO al one two fal fone ftwo hfc hal hone htwo).packR fun v O' hR => by
  obtain ⟨b, l, pb, pc, lb, lc, rfl, rfl, hf⟩ := hR
  exact ⟨True, _, OO, trivial, rfl, b, l, ⟨pb, pc, lb, lc⟩, rfl, rfl, hf⟩
theorem topF (base : World) [Tab Tryd.prog base] (p : Par) (k : DK) (h : AtP base p k) (hv : ValidP p) (pb kb a u : Nat) (hu : u < p.next.length) :
  CallT Tryd.prog base 66 [vI ((u : Nat) : Int), (.pointer (aD pb)), (.pointer (aD kb))] [oI pb 25 (pC p k), oI kb 3 [vI ((a : Nat) : Int)]] (fun v O' => v = .bool (decide (topW p a u = true)) ∧ O' = [oI pb 25 (pC p k), oI kb 3 [vI ((a : Nat) : Int)]]) := by
 refine CallT.enter func66 rfl ntmps66 rfl ?_
 have hup : u < p.prio.length := by rw [hv.pl]; exact hu
 refine T.s (T.rg (TO.qa rfl (TO.nl (T.s ?_))))
 refine T.draws _ [(0, 0), (1, 0), (2, 0), (3, 0), (4, 0), (5, 0), (6, 0), (7, 0)] mixed (by kernel_rfl) (Sub.of (List.Sublist.refl _)) (fun _ _ _ h => h) ?_
 refine DO.q rfl (q_fa underlying25 rfl inf23 rfl rfl) (DO.q rfl (q_lb 0 underlying23 rfl rfl rfl rfl) (DO.q rfl (q_move rfl) (DO.q rfl (q_ix (i := u) underlying23 inf3 rfl rfl (Sl.o h.prio) hup (by rw [List.length_map]; exact hup)) ?_)))
 refine DO.q rfl (q_ld underlying3 rfl rfl (Sl.o h.prio) (by rw [ints, List.getElem?_map, hv.prAt hu]; rfl)) (DO.q rfl (q_lb 1 underlying3 rfl rfl rfl rfl) (DO.q rfl (q_eql rfl rfl) (DO.q rfl (q_assign rfl) ?_)))
 refine DO.done ?_
 refine T.ret ?_
 refine Res.one (.bool (decide (((prN p u : Nat) : Int) = ((a : Nat) : Int)))) Tryd.results66 rfl ?_
 exact ⟨congrArg Value.bool (decide_eq_decide.2 (by simp only [topW, decide_eq_true_eq]; omega)), rfl⟩
theorem leF (base : World) [Tab Tryd.prog base] (p : Par) (k : DK) (h : AtP base p k) (hv : ValidP p) (pb kb a u : Nat) (hu : u < p.next.length) :
  CallT Tryd.prog base 67 [vI ((u : Nat) : Int), (.pointer (aD pb)), (.pointer (aD kb))] [oI pb 25 (pC p k), oI kb 3 [vI ((a : Nat) : Int)]] (fun v O' => v = .bool (decide (alW p a u = true)) ∧ O' = [oI pb 25 (pC p k), oI kb 3 [vI ((a : Nat) : Int)]]) := by
 refine CallT.enter func67 rfl ntmps67 rfl ?_
 have hup : u < p.prio.length := by rw [hv.pl]; exact hu
 refine T.s (T.rg (TO.qa rfl (TO.nl (T.s ?_))))
 refine T.draws _ [(0, 0), (1, 0), (2, 0), (3, 0), (4, 0), (5, 0), (6, 0), (7, 0)] mixed (by kernel_rfl) (Sub.of (List.Sublist.refl _)) (fun _ _ _ h => h) ?_
 refine DO.q rfl (q_fa underlying25 rfl inf23 rfl rfl) (DO.q rfl (q_lb 0 underlying23 rfl rfl rfl rfl) (DO.q rfl (q_move rfl) (DO.q rfl (q_ix (i := u) underlying23 inf3 rfl rfl (Sl.o h.prio) hup (by rw [List.length_map]; exact hup)) ?_)))
 refine DO.q rfl (q_ld underlying3 rfl rfl (Sl.o h.prio) (by rw [ints, List.getElem?_map, hv.prAt hu]; rfl)) (DO.q rfl (q_lb 1 underlying3 rfl rfl rfl rfl) (DO.q rfl (q_leq rfl rfl) (DO.q rfl (q_assign rfl) ?_)))
 refine DO.done ?_
 refine T.ret ?_
 refine Res.one (.bool (decide (((prN p u : Nat) : Int) ≤ ((a : Nat) : Int)))) Tryd.results67 rfl ?_
 exact ⟨congrArg Value.bool (decide_eq_decide.2 (by simp only [alW, decide_eq_true_eq]; omega)), rfl⟩
theorem oneF (base : World) [Tab Tryd.prog base] (p : Par) (k : DK) (h : AtP base p k) (hv : ValidP p) (q : Par) (hq : ValidP q) (pb mb kb a u : Nat) (hub : u < 1000000000000) (hu : u < p.next.length * q.next.length) :
  CallT Tryd.prog base 64 [vI ((u : Nat) : Int), (.pointer (aD pb)), (.pointer (aD mb)), (.pointer (aD kb))] [oI pb 25 (pC p k), oI mb 3 [vI ((q.next.length : Nat) : Int)], oI kb 3 [vI ((a : Nat) : Int)]] (fun v O' => v = .bool (decide ((fun v : Nat => decide (f1 p q v = a)) u = true)) ∧ O' = [oI pb 25 (pC p k), oI mb 3 [vI ((q.next.length : Nat) : Int)], oI kb 3 [vI ((a : Nat) : Int)]]) := by
 refine CallT.enter func64 rfl ntmps64 rfl ?_
 obtain ⟨hud, hum⟩ := pr_split (n := q.next.length) (k := p.next.length) (c := u) hu
 have hqp : 0 < q.next.length := hq.val.n0
 have hq4 := hq.n4
 have hup : u / q.next.length < p.prio.length := by rw [hv.pl]; exact hud
 have huq : u % q.next.length < q.prio.length := by rw [hq.pl]; exact hum
 have hu9 : u < 1000000000000 := hub
 refine T.s (T.rg (TO.qa rfl (TO.nl (T.s ?_))))
 refine T.draws _ [(0, 0), (1, 0), (2, 0), (3, 0), (4, 0), (5, 0), (6, 0), (7, 0), (8, 0), (9, 0)] mixed (by kernel_rfl) (Sub.of (List.Sublist.refl _)) (fun _ _ _ h => h) ?_
 refine DO.q rfl (q_fa underlying25 rfl inf23 rfl rfl) (DO.q rfl (q_lb 0 underlying23 rfl rfl rfl rfl) (DO.q rfl (q_move rfl) (DO.q rfl (q_lb 1 underlying3 rfl rfl rfl rfl) ?_)))
 refine DO.q rfl (q_quoN (a := u) (b := q.next.length) rfl rfl (by omega) (by omega)) (DO.q rfl (q_ix (i := (u / q.next.length)) underlying23 inf3 rfl rfl (Sl.o h.prio) hup (by rw [List.length_map]; exact hup)) (DO.q rfl (q_ld underlying3 rfl rfl (Sl.o h.prio) (by rw [ints, List.getElem?_map, hv.prAt hud]; rfl)) (DO.q rfl (q_lb 2 underlying3 rfl rfl rfl rfl) ?_)))
 refine DO.q rfl (q_eql rfl rfl) (DO.q rfl (q_assign rfl) ?_)
 refine DO.done ?_
 refine T.ret ?_
 refine Res.one (.bool (decide (((prN p (u / q.next.length) : Nat) : Int) = ((a : Nat) : Int)))) Tryd.results64 rfl ?_
 exact ⟨congrArg Value.bool (decide_eq_decide.2 (by show ((prN p (u / q.next.length) : Nat) : Int) = ((a : Nat) : Int) ↔ decide (prN p (u / q.next.length) = a) = true; rw [decide_eq_true_eq]; omega)), rfl⟩
theorem twoF (base : World) [Tab Tryd.prog base] (p : Par) (hv : ValidP p) (q : Par) (k2 : DK) (h2 : AtP base q k2) (hq : ValidP q) (qb mb jb c u : Nat) (hub : u < 1000000000000) (hu : u < p.next.length * q.next.length) :
  CallT Tryd.prog base 65 [vI ((u : Nat) : Int), (.pointer (aD qb)), (.pointer (aD mb)), (.pointer (aD jb))] [oI qb 25 (pC q k2), oI mb 3 [vI ((q.next.length : Nat) : Int)], oI jb 3 [vI ((c : Nat) : Int)]] (fun v O' => v = .bool (decide ((fun v : Nat => decide (f2 q v = c)) u = true)) ∧ O' = [oI qb 25 (pC q k2), oI mb 3 [vI ((q.next.length : Nat) : Int)], oI jb 3 [vI ((c : Nat) : Int)]]) := by
 refine CallT.enter func65 rfl ntmps65 rfl ?_
 obtain ⟨hud, hum⟩ := pr_split (n := q.next.length) (k := p.next.length) (c := u) hu
 have hqp : 0 < q.next.length := hq.val.n0
 have hq4 := hq.n4
 have hup : u / q.next.length < p.prio.length := by rw [hv.pl]; exact hud
 have huq : u % q.next.length < q.prio.length := by rw [hq.pl]; exact hum
 have hu9 : u < 1000000000000 := hub
 refine T.s (T.rg (TO.qa rfl (TO.nl (T.s ?_))))
 refine T.draws _ [(0, 0), (1, 0), (2, 0), (3, 0), (4, 0), (5, 0), (6, 0), (7, 0), (8, 0), (9, 0)] mixed (by kernel_rfl) (Sub.of (List.Sublist.refl _)) (fun _ _ _ h => h) ?_
 refine DO.q rfl (q_fa underlying25 rfl inf23 rfl rfl) (DO.q rfl (q_lb 0 underlying23 rfl rfl rfl rfl) (DO.q rfl (q_move rfl) (DO.q rfl (q_lb 1 underlying3 rfl rfl rfl rfl) ?_)))
 refine DO.q rfl (q_remN (a := u) (b := q.next.length) rfl rfl (by omega)) (DO.q rfl (q_ix (i := (u % q.next.length)) underlying23 inf3 rfl rfl (Sl.o h2.prio) huq (by rw [List.length_map]; exact huq)) (DO.q rfl (q_ld underlying3 rfl rfl (Sl.o h2.prio) (by rw [ints, List.getElem?_map, hq.prAt hum]; rfl)) (DO.q rfl (q_lb 2 underlying3 rfl rfl rfl rfl) ?_)))
 refine DO.q rfl (q_eql rfl rfl) (DO.q rfl (q_assign rfl) ?_)
 refine DO.done ?_
 refine T.ret ?_
 refine Res.one (.bool (decide (((prN q (u % q.next.length) : Nat) : Int) = ((c : Nat) : Int)))) Tryd.results65 rfl ?_
 exact ⟨congrArg Value.bool (decide_eq_decide.2 (by show ((prN q (u % q.next.length) : Nat) : Int) = ((c : Nat) : Int) ↔ decide (prN q (u % q.next.length) = c) = true; rw [decide_eq_true_eq]; omega)), rfl⟩
theorem bothF (base : World) [Tab Tryd.prog base] (p : Par) (k : DK) (h : AtP base p k) (hv : ValidP p) (q : Par) (k2 : DK) (h2 : AtP base q k2) (hq : ValidP q) (pb mb kb qb jb a c u : Nat) (hub : u < 1000000000000) (hu : u < p.next.length * q.next.length) :
  CallT Tryd.prog base 62 [vI ((u : Nat) : Int), (.pointer (aD pb)), (.pointer (aD mb)), (.pointer (aD kb)), (.pointer (aD qb)), (.pointer (aD jb))] [oI pb 25 (pC p k), oI mb 3 [vI ((q.next.length : Nat) : Int)], oI kb 3 [vI ((a : Nat) : Int)], oI qb 25 (pC q k2), oI jb 3 [vI ((c : Nat) : Int)]] (fun v O' => v = .bool (decide (alD p q a c u = true)) ∧ O' = [oI pb 25 (pC p k), oI mb 3 [vI ((q.next.length : Nat) : Int)], oI kb 3 [vI ((a : Nat) : Int)], oI qb 25 (pC q k2), oI jb 3 [vI ((c : Nat) : Int)]]) := by
 refine CallT.enter func62 rfl ntmps62 rfl ?_
 obtain ⟨hud, hum⟩ := pr_split (n := q.next.length) (k := p.next.length) (c := u) hu
 have hqp : 0 < q.next.length := hq.val.n0
 have hq4 := hq.n4
 have hup : u / q.next.length < p.prio.length := by rw [hv.pl]; exact hud
 have huq : u % q.next.length < q.prio.length := by rw [hq.pl]; exact hum
 have hu9 : u < 1000000000000 := hub
 refine T.s (T.rg (TO.qa rfl (TO.nl (T.s ?_))))
 refine T.draws _ [(0, 0), (1, 0), (2, 0), (3, 0), (4, 0), (5, 0), (6, 0), (7, 0), (8, 0), (9, 0), (10, 0), (11, 0), (12, 0), (13, 0), (14, 0), (15, 0), (16, 0), (17, 0), (18, 0), (19, 0), (20, 0)] mixed (drawF_ok (by kernel_rfl)) (Sub.of (List.Sublist.refl _)) (fun _ _ _ h => h) ?_
 refine DO.q rfl (q_fa underlying25 rfl inf23 rfl rfl) (DO.q rfl (q_lb 0 underlying23 rfl rfl rfl rfl) (DO.q rfl (q_move rfl) (DO.q rfl (q_lb 1 underlying3 rfl rfl rfl rfl) ?_)))
 refine DO.q rfl (q_quoN (a := u) (b := q.next.length) rfl rfl (by omega) (by omega)) (DO.q rfl (q_ix (i := (u / q.next.length)) underlying23 inf3 rfl rfl (Sl.o h.prio) hup (by rw [List.length_map]; exact hup)) (DO.q rfl (q_ld underlying3 rfl rfl (Sl.o h.prio) (by rw [ints, List.getElem?_map, hv.prAt hud]; rfl)) (DO.q rfl (q_lb 2 underlying3 rfl rfl rfl rfl) ?_)))
 refine DO.q rfl (q_leq rfl rfl) ?_
 by_cases h17 : ((prN p (u / q.next.length) : Nat) : Int) ≤ ((a : Nat) : Int)
 ·refine DO.q rfl (QT.toB (q_move rfl) (decide_eq_true h17)) ?_
  refine DO.guarded rfl rfl rfl (q_fa underlying25 rfl inf23 rfl rfl) ?_
  refine DO.guarded rfl rfl rfl (q_lb 3 underlying23 rfl rfl rfl rfl) ?_
  refine DO.guarded rfl rfl rfl (q_move rfl) ?_
  refine DO.guarded rfl rfl rfl (q_lb 1 underlying3 rfl rfl rfl rfl) ?_
  refine DO.guarded rfl rfl rfl (q_remN (a := u) (b := q.next.length) rfl rfl (by omega)) ?_
  refine DO.guarded rfl rfl rfl (q_ix (i := (u % q.next.length)) underlying23 inf3 rfl rfl (Sl.o h2.prio) huq (by rw [List.length_map]; exact huq)) ?_
  refine DO.guarded rfl rfl rfl (q_ld underlying3 rfl rfl (Sl.o h2.prio) (by rw [ints, List.getElem?_map, hq.prAt hum]; rfl)) ?_
  refine DO.guarded rfl rfl rfl (q_lb 4 underlying3 rfl rfl rfl rfl) ?_
  refine DO.guarded rfl rfl rfl (q_leq rfl rfl) ?_
  refine DO.q rfl (q_pick1 rfl rfl) (DO.q rfl (q_assign rfl) ?_)
  refine DO.done ?_
  refine T.ret ?_
  refine Res.one (.bool (decide (((prN q (u % q.next.length) : Nat) : Int) ≤ ((c : Nat) : Int)))) Tryd.results62 rfl ?_
  exact ⟨congrArg Value.bool (decide_eq_decide.2 (by show ((prN q (u % q.next.length) : Nat) : Int) ≤ ((c : Nat) : Int) ↔ (decide (prN p (u / q.next.length) ≤ a) && decide (prN q (u % q.next.length) ≤ c)) = true; rw [Bool.and_eq_true, decide_eq_true_eq, decide_eq_true_eq]; omega)), rfl⟩
 refine DO.q rfl (QT.toB (q_move rfl) (decide_eq_false h17)) (DO.passed rfl rfl rfl (DO.passed rfl rfl rfl (DO.passed rfl rfl rfl (DO.passed rfl rfl rfl (DO.passed rfl rfl rfl (DO.passed rfl rfl rfl (DO.passed rfl rfl rfl ?_)))))))
 refine DO.passed rfl rfl rfl (DO.passed rfl rfl rfl (DO.q rfl (q_pick0 rfl rfl) (DO.q rfl (q_assign rfl) ?_)))
 refine DO.done ?_
 refine T.ret ?_
 refine Res.one (.bool false) Tryd.results62 rfl ?_
 exact ⟨congrArg Value.bool (decide_eq_false (fun g => by have g2 : (decide (prN p (u / q.next.length) ≤ a) && decide (prN q (u % q.next.length) ≤ c)) = true := g; rw [Bool.and_eq_true, decide_eq_true_eq] at g2; omega)).symm, rfl⟩
theorem pairC0 (w : World) [Tab Tryd.prog w] (p : Par) (k : DK) (h : AtP w p k) (hv : ValidP p) (q : Par) (k2 : DK) (h2 : AtP w q k2) (hq : ValidP q) (hvv : p.vars = q.vars) (hnm : p.next.length * q.next.length ≤ 4096) :
  PureT Tryd.prog 60 [pV p k, pV q k2] w fun v N => ∃ nb nc qs, v = .agg (parCells (pairP p q) nb nc none 0).toArray ∧ N = [rowI nb nc 23 1 (vals qs), rowI none 0 3 1 (ints [])] ++ itms 3 qs ∧ nums qs = prNext p.d q.d := by
 refine CallT.enter func60 rfl ntmps60 rfl ?_
 have hvl := h.rows.1
 have hvl2 := h2.rows.1
 have hw6 := hv.letN6
 have hn4 := hv.n4
 have hm4 := hq.n4
 have hst := pr_lt hv.st hq.st
 have hLq : letN q.d = letN p.d := by show 2 ^ q.vars.toNat = 2 ^ p.vars.toNat; rw [hvv]
 refine T.s (T.rg (TO.l rfl (l_box (v := (pV p k)) (cs := (pC p k)) rfl rfl (fun z1 => ?_))))
 refine TO.l rfl (l_box (v := (pV q k2)) (cs := (pC q k2)) rfl rfl (fun z2 => ?_))
 refine TO.l rfl (l_alloc inf25 rfl (fun z3 => ?_))
 refine TO.nl (T.s (T.rg (TO.q (q_fa underlying25 rfl inf22 rfl rfl) (TO.q (q_lb 1 underlying22 rfl rfl rfl rfl) (TO.q (q_len underlying22 rfl) (TO.qa rfl (TO.nl (T.s (T.rg (TO.q (q_fa underlying25 rfl inf3 rfl rfl) (TO.q (q_lb 2 underlying3 rfl rfl rfl rfl) (TO.q (q_fa underlying25 rfl inf3 rfl rfl) (TO.q (QT.cast (q_lb 2 underlying3 rfl rfl rfl rfl) (v' := vI ((p.start.toNat : Nat) : Int)) (congrArg (Value.int .i64) (Int.toNat_of_nonneg hv.val.s0).symm)) (TO.qm rfl (TO.q (q_mulN (a := p.start.toNat) (b := q.next.length) rfl rfl (by omega)) (TO.q (q_fa underlying25 rfl inf3 rfl rfl) (TO.q (QT.cast (q_lb 1 underlying3 rfl rfl rfl rfl) (v' := vI ((q.start.toNat : Nat) : Int)) (congrArg (Value.int .i64) (Int.toNat_of_nonneg hq.val.s0).symm)) (TO.q (q_addN (a := (p.start.toNat * q.next.length)) (b := q.start.toNat) rfl rfl (by omega)) (TO.q (q_build (cs := [(vI p.vars), vI (((p.start.toNat * q.next.length) + q.start.toNat : Nat) : Int), nS, nS]) plan25 inf25 (by kernel_rfl)) (TO.l rfl (l_alloc inf25 rfl (fun z4 => ?_))))))))))))))))))))))
 refine TO.l rfl (l_sb (v := (.agg #[(vI p.vars), vI (((p.start.toNat * q.next.length) + q.start.toNat : Nat) : Int), nS, nS])) (vs := [(vI p.vars), vI (((p.start.toNat * q.next.length) + q.start.toNat : Nat) : Int), nS, nS]) 0 inf25 rfl rfl rfl rfl rfl rfl (by simp [putL]) ?_)
 refine TO.nl (T.s (T.s (T.rg (TO.q (q_fa underlying25 rfl inf22 rfl rfl) (TO.q (q_lb 3 underlying22 rfl rfl rfl rfl) (TO.q (q_len underlying22 rfl) (TO.qm rfl (TO.nl (T.block (T.nilRow 23 1 ?_))))))))))
 refine T.loopS (fun (s : Nat) ρ O => ∃ (nb : Option Addr) (nc : Nat) (qs : List Rec), O = ([rowI nb nc 23 1 (vals qs), oI z4 25 [(vI p.vars), vI (((p.start.toNat * q.next.length) + q.start.toNat : Nat) : Int), (.slice nb qs.length nc), nS], oI z3 25 [(vI 0), (vI 0), nS, nS], oI z2 25 (pC q k2), oI z1 25 (pC p k)] ++ (itms 3 qs)) ∧ s ≤ p.next.length ∧ nums qs = (prNext p.d q.d).take (s * q.next.length) ∧ Heads [(0, (pV p k)), (1, (pV q k2)), (2, (.pointer (aD z1))), (3, (.pointer (aD z2))), (4, (.pointer (aD z3))), (5, vI (q.next.length : Int)), (6, (.pointer (aD z4))), (27, (.slice k.nb p.next.length k.nc)), (28, vI (p.next.length : Int)), (29, vI ((s : Nat) : Int))] ρ) (fun s => p.next.length - s) 0 ?_ ?_
 ·exact ⟨none, 0, [], rfl, Nat.zero_le _, by simp, (.of rfl)⟩
 rintro s ρ O ⟨nb, nc, qs, rfl, hs, hqs, hH⟩
 obtain ⟨ρ0, rfl⟩ := hH.elim
 clear hH
 refine T.s (T.rg (TO.q (q_lss rfl rfl) (TO.nl (T.s (T.condP rfl (fun hc => ?_) (fun hc => ?_))))))
 ·have hlt30 : s < p.next.length := by omega
  have hsn : s < p.next.length := by omega
  obtain ⟨v1, c1, g1, s1⟩ := h.rows.get hsn
  have hr1 : p.next[s].length = letN p.d := hv.val.len _ (List.getElem_mem hsn)
  refine T.skip (T.s (T.block (T.s (T.rg (TO.q (q_ix (i := s) underlying22 inf23 rfl rfl (Sl.o h.outer) hsn (hvl ▸ hsn)) (TO.q (q_ld underlying23 rfl rfl (Sl.o h.outer) g1) (TO.qa rfl (TO.nl (T.s (T.rg (TO.q (q_fa underlying25 rfl inf22 rfl rfl) (TO.q (q_lb 3 underlying22 rfl rfl rfl rfl) (TO.q (q_len underlying22 rfl) (TO.qm rfl (TO.nl (T.block ?_))))))))))))))))
  refine T.loopS (fun (u : Nat) ρ O => ∃ (nb : Option Addr) (nc : Nat) (qs : List Rec), O = ([rowI nb nc 23 1 (vals qs), oI z4 25 [(vI p.vars), vI (((p.start.toNat * q.next.length) + q.start.toNat : Nat) : Int), (.slice nb qs.length nc), nS], oI z3 25 [(vI 0), (vI 0), nS, nS], oI z2 25 (pC q k2), oI z1 25 (pC p k)] ++ (itms 3 qs)) ∧ u ≤ q.next.length ∧ nums qs = (prNext p.d q.d).take (s * q.next.length + u) ∧ Heads [(0, (pV p k)), (1, (pV q k2)), (2, (.pointer (aD z1))), (3, (.pointer (aD z2))), (4, (.pointer (aD z3))), (5, vI (q.next.length : Int)), (6, (.pointer (aD z4))), (8, (.slice v1 p.next[s].length c1)), (27, (.slice k.nb p.next.length k.nc)), (28, vI (p.next.length : Int)), (29, vI ((s : Nat) : Int)), (34, (.slice k2.nb q.next.length k2.nc)), (35, vI (q.next.length : Int)), (36, vI ((u : Nat) : Int))] ρ) (fun u => q.next.length - u) 0 ?_ ?_
  ·exact ⟨nb, nc, qs, rfl, Nat.zero_le _, hqs, (.of rfl)⟩
  rintro u ρ O ⟨nb, nc, qs, rfl, hu, hqs, hH⟩
  obtain ⟨ρ0, rfl⟩ := hH.elim
  clear hH
  refine T.s (T.rg (TO.q (q_lss rfl rfl) (TO.nl (T.s (T.condP rfl (fun hc => ?_) (fun hc => ?_))))))
  ·have hlt37 : u < q.next.length := by omega
   have hun : u < q.next.length := by omega
   obtain ⟨v2, c2, g2, s2⟩ := h2.rows.get hun
   have hr2 : q.next[u].length = letN p.d := (hq.val.len _ (List.getElem_mem hun)).trans hLq
   have hsu := pr_lt hsn hun
   have hnx : (prNext p.d q.d).take (s * q.next.length + (u + 1)) = (prNext p.d q.d).take (s * q.next.length + u) ++ [prRow p.d q.d s u] := prNext_step (a := p.d) (b := q.d) hsn hun
   refine T.skip (T.s (T.block (T.s (T.rg (TO.q (q_ix (i := u) underlying22 inf23 rfl rfl (Sl.o h2.outer) hun (hvl2 ▸ hun)) (TO.q (q_ld underlying23 rfl rfl (Sl.o h2.outer) g2) (TO.qa rfl (TO.nl (T.s (T.rg (TO.qm rfl (TO.q (q_len underlying23 rfl) (TO.l rfl (l_makeSlice (m := p.next[s].length) underlying23 inf3 rfl rfl (by omega) (by omega) (fun z5 => ?_)))))))))))))))
   refine TO.qa rfl (TO.nl (T.s (T.s (T.rg (TO.qm rfl (TO.q (q_len underlying23 rfl) (TO.qm rfl (TO.nl (T.block ?_)))))))))
   have hql : qs.length ≤ 4096 := by
    have h1 := congrArg List.length hqs
    rw [List.length_map, List.length_take, prNext_len] at h1
    have h3 : p.d.next.length = p.next.length := rfl
    have h4 : q.d.next.length = q.next.length := rfl
    rw [h3, h4] at h1; omega
   refine T.loopS (fun (x : Nat) ρ O => O = ([rowI (aD z5) p.next[s].length 3 1 (ints (rCut (prRow p.d q.d s u) x)), rowI nb nc 23 1 (vals qs), oI z4 25 [(vI p.vars), vI (((p.start.toNat * q.next.length) + q.start.toNat : Nat) : Int), (.slice nb qs.length nc), nS], oI z3 25 [(vI 0), (vI 0), nS, nS], oI z2 25 (pC q k2), oI z1 25 (pC p k)] ++ (itms 3 qs)) ∧ x ≤ letN p.d ∧ Heads [(0, (pV p k)), (1, (pV q k2)), (2, (.pointer (aD z1))), (3, (.pointer (aD z2))), (4, (.pointer (aD z3))), (5, vI (q.next.length : Int)), (6, (.pointer (aD z4))), (8, (.slice v1 p.next[s].length c1)), (10, (.slice v2 q.next[u].length c2)), (11, (.slice (aD z5) p.next[s].length p.next[s].length)), (27, (.slice k.nb p.next.length k.nc)), (28, vI (p.next.length : Int)), (29, vI ((s : Nat) : Int)), (34, (.slice k2.nb q.next.length k2.nc)), (35, vI (q.next.length : Int)), (36, vI ((u : Nat) : Int)), (44, vI (p.next[s].length : Int)), (45, vI ((x : Nat) : Int))] ρ) (fun x => letN p.d - x) 0 ?_ ?_
   ·exact ⟨by rw [rCut_zero, prRow_len, hr1]; simp, Nat.zero_le _, (.of rfl)⟩
   rintro x ρ O ⟨rfl, hx, hH⟩
   obtain ⟨ρ0, rfl⟩ := hH.elim
   clear hH
   have hcl := rCut_len (prRow p.d q.d s u) (x := x) (by rw [prRow_len]; exact hx)
   refine T.s (T.rg (TO.q (q_lss rfl rfl) (TO.nl (T.s (T.condP rfl (fun hc => ?_) (fun hc => ?_))))))
   ·have hlt46 : x < p.next[s].length := by omega
    have hxl : x < letN p.d := by omega
    have hxq : x < letN q.d := by omega
    obtain ⟨ht1, hx1, e1, _⟩ := hv.to hsn hxl
    obtain ⟨ht2, hx2, e2, _⟩ := hq.to hun hxq
    have hto := pr_lt ht1 ht2
    have hpl := prRow_len p.d q.d s u
    have hprx := prRow_at (a := p.d) (b := q.d) (s := s) (t := u) hxl
    refine T.skip (T.s (T.block (T.s (T.rg (TO.qm rfl (TO.qa rfl (TO.nl ?_)))))))
    refine T.draws _ [(0, 0), (1, 0), (2, 0), (3, 0), (4, 0), (5, 0), (6, 0), (7, 0), (8, 0), (9, 0), (10, 0), (11, 0), (12, 0), (13, 0), (14, 2)] mixed (drawF_ok (by kernel_rfl)) (Sub.of (List.Sublist.refl _)) (fun _ _ _ h => h) ?_
    refine DO.q rfl (q_move rfl) (DO.q rfl (q_move rfl) (DO.q rfl (q_move rfl) (DO.q rfl (q_move rfl) (DO.q rfl (q_ix (i := x) underlying23 inf3 rfl rfl (Sl.o s1) hx1 (by rw [List.length_map]; exact hx1)) (DO.q rfl (q_ld underlying3 rfl rfl (Sl.o s1) e1) (DO.q rfl (q_move rfl) (DO.q rfl (q_mulN (a := (toN p.d s x)) (b := q.next.length) rfl rfl (by omega)) (DO.q rfl (q_move rfl) (DO.q rfl (q_move rfl) (DO.q rfl (q_ix (i := x) underlying23 inf3 rfl rfl (Sl.o s2) hx2 (by rw [List.length_map]; exact hx2)) (DO.q rfl (q_ld underlying3 rfl rfl (Sl.o s2) e2) (DO.q rfl (q_addN (a := ((toN p.d s x) * q.next.length)) (b := (toN q.d u x)) rfl rfl (by omega)) (DO.q rfl (q_ix (i := x) underlying23 inf3 rfl rfl (rowO (mG 0 rfl)) hx1 (by rw [List.length_map]; omega)) ?_)))))))))))))
    refine DO.last rfl rfl (l_st (j := x) (v := vI ((((toN p.d s x) * q.next.length) + (toN q.d u x) : Nat) : Int)) (vs := [(vI ((((toN p.d s x) * q.next.length) + (toN q.d u x) : Nat) : Int))]) (cs := ints (rCut (prRow p.d q.d s u) x)) 0 inf3 rfl rfl rfl rfl rfl (by simp) rfl (by first | (simp; omega) | (simp_all; omega)) ?_)
    refine DO.sub (O' := ([rowI (aD z5) p.next[s].length 3 1 (ints (rCut (prRow p.d q.d s u) (x + 1))), rowI nb nc 23 1 (vals qs), oI z4 25 [(vI p.vars), vI (((p.start.toNat * q.next.length) + q.start.toNat : Nat) : Int), (.slice nb qs.length nc), nS], oI z3 25 [(vI 0), (vI 0), nS, nS], oI z2 25 (pC q k2), oI z1 25 (pC p k)] ++ (itms 3 qs))) (by rw [show putL (ints (rCut (prRow p.d q.d s u) x)) x [(vI ((((toN p.d s x) * q.next.length) + (toN q.d u x) : Nat) : Int))] = ints (rCut (prRow p.d q.d s u) (x + 1)) from (by rw [← rCut_set (v := ((toN p.d s x * q.next.length + toN q.d u x : Nat) : Int)) (by omega) hprx]; simp [putL])]; exact Sub.of (List.Sublist.refl _)) ?_
    refine DO.done ?_
    refine T.rg (TO.q (q_addN (a := x) (b := 1) rfl rfl (by omega)) (TO.qm rfl (TO.nl ?_)))
    exact ⟨x + 1, by omega, ([rowI (aD z5) p.next[s].length 3 1 (ints (rCut (prRow p.d q.d s u) (x + 1))), rowI nb nc 23 1 (vals qs), oI z4 25 [(vI p.vars), vI (((p.start.toNat * q.next.length) + q.start.toNat : Nat) : Int), (.slice nb qs.length nc), nS], oI z3 25 [(vI 0), (vI 0), nS, nS], oI z2 25 (pC q k2), oI z1 25 (pC p k)] ++ (itms 3 qs)), (by exact Sub.rf), rfl, by omega, (.of rfl)⟩
   have hge46 : ¬ x < p.next[s].length := by omega
   refine T.exit ?_
   refine T.rg (TO.q (q_fa underlying25 rfl inf22 rfl rfl) (TO.q (q_lb 2 underlying22 rfl rfl rfl rfl) (TO.qm rfl (TO.l rfl (l_build1 (v := (.slice (aD z5) p.next[s].length p.next[s].length)) underlying22 inf23 rfl rfl rfl (fun z6 => ?_))))))
   refine TO.l rfl (l_append 2 underlying22 underlying22 inf23 rfl rfl rfl rfl (by simp) (by decide) (Src.row (j := 0) rfl (by simp)) (by simp [oneB]) (by omega) (by decide) (by decide) (fun z7 zc8 => ?_))
   refine TO.q (q_fa underlying25 rfl inf22 rfl rfl) (TO.l rfl (l_sb (v := (.slice z7 (qs.length + 1) zc8)) (vs := [(.slice z7 (qs.length + 1) zc8)]) 3 inf22 rfl rfl rfl rfl rfl rfl (by simp [putL]) ?_))
   refine TO.nl ?_
   have hrc : rCut (prRow p.d q.d s u) x = (prRow p.d q.d s u) := by
    have h9 := rCut_end (prRow p.d q.d s u)
    rw [prRow_len] at h9
    rw [show x = letN p.d by omega]; exact h9
   refine T.sub (O' := [rowI (aD z6) 1 23 1 [(.slice (aD z5) p.next[s].length p.next[s].length)], Rec.itm 3 ⟨(aD z5), p.next[s].length, (prRow p.d q.d s u)⟩, rowI z7 zc8 23 1 ((vals qs) ++ [(.slice (aD z5) p.next[s].length p.next[s].length)]), oI z4 25 [(vI p.vars), vI (((p.start.toNat * q.next.length) + q.start.toNat : Nat) : Int), (.slice z7 (qs.length + 1) zc8), nS], oI z3 25 [(vI 0), (vI 0), nS, nS], oI z2 25 (pC q k2), oI z1 25 (pC p k)] ++ (itms 3 qs)) (by rw [hrc]; exact Sub.rf) ?_
   refine T.sub (O' := [rowI z7 zc8 23 1 (vals (qs ++ [⟨(aD z5), p.next[s].length, (prRow p.d q.d s u)⟩])), oI z4 25 [(vI p.vars), vI (((p.start.toNat * q.next.length) + q.start.toNat : Nat) : Int), (.slice z7 (qs.length + 1) zc8), nS], oI z3 25 [(vI 0), (vI 0), nS, nS], oI z2 25 (pC q k2), oI z1 25 (pC p k)] ++ (itms 3 (qs ++ [⟨(aD z5), p.next[s].length, (prRow p.d q.d s u)⟩]))) (by rw [show vals (qs ++ [(⟨(aD z5), p.next[s].length, (prRow p.d q.d s u)⟩ : Rec)]) = vals qs ++ [Value.slice (aD z5) p.next[s].length p.next[s].length] by simp [Rec.val, prRow_len, hr1]]; exact Sub.ca [rowI (aD z6) 1 23 1 [(.slice (aD z5) p.next[s].length p.next[s].length)]]) ?_
   refine T.rg (TO.q (q_addN (a := u) (b := 1) rfl rfl (by omega)) (TO.qm rfl (TO.nl ?_)))
   exact ⟨u + 1, by omega, ([rowI z7 zc8 23 1 (vals (qs ++ [⟨(aD z5), p.next[s].length, (prRow p.d q.d s u)⟩])), oI z4 25 [(vI p.vars), vI (((p.start.toNat * q.next.length) + q.start.toNat : Nat) : Int), (.slice z7 (qs.length + 1) zc8), nS], oI z3 25 [(vI 0), (vI 0), nS, nS], oI z2 25 (pC q k2), oI z1 25 (pC p k)] ++ (itms 3 (qs ++ [⟨(aD z5), p.next[s].length, (prRow p.d q.d s u)⟩]))), (by exact Sub.rf), z7, zc8, qs ++ [⟨(aD z5), p.next[s].length, (prRow p.d q.d s u)⟩], by rw [List.length_append]; rfl, by omega, by rw [hnx, ← hqs]; exact List.map_append, (.of rfl)⟩
  have hge37 : ¬ u < q.next.length := by omega
  refine T.exit ?_
  refine T.rg (TO.q (q_addN (a := s) (b := 1) rfl rfl (by omega)) (TO.qm rfl (TO.nl ?_)))
  have hue : u = q.next.length := by omega
  exact ⟨s + 1, by omega, ([rowI nb nc 23 1 (vals qs), oI z4 25 [(vI p.vars), vI (((p.start.toNat * q.next.length) + q.start.toNat : Nat) : Int), (.slice nb qs.length nc), nS], oI z3 25 [(vI 0), (vI 0), nS, nS], oI z2 25 (pC q k2), oI z1 25 (pC p k)] ++ (itms 3 qs)), (by exact Sub.rf), nb, nc, qs, rfl, by omega, by rw [hqs, hue, Nat.succ_mul], (.of rfl)⟩
 have hge30 : ¬ s < p.next.length := by omega
 refine T.exit ?_
 refine T.s (T.nilRow 3 1 ?_)
 refine T.rg (TO.q (q_la 2 underlying25 rfl inf25 rfl rfl rfl) (TO.l rfl (l_sb (v := (.agg #[(vI p.vars), vI (((p.start.toNat * q.next.length) + q.start.toNat : Nat) : Int), (.slice nb qs.length nc), nS])) (vs := [(vI p.vars), vI (((p.start.toNat * q.next.length) + q.start.toNat : Nat) : Int), (.slice nb qs.length nc), nS]) 3 inf25 rfl rfl rfl rfl rfl rfl (by simp [putL]) ?_)))
 refine TO.nl (T.ret (Res.drop ?_))
 refine Res.cell1 (i := 3) Tryd.results60 underlying25 rfl inf25 rfl rfl rfl ?_
 have hse : s = p.next.length := by omega
 have hnq : nums qs = prNext p.d q.d := by rw [hqs, hse, List.take_of_length_le (by rw [prNext_len]; exact Nat.le_refl _)]
 have hlen9 : qs.length = (prNext p.d q.d).length := by rw [← hnq, List.length_map]
 exact ⟨[rowI nb nc 23 1 (vals qs), rowI none 0 3 1 (ints [])] ++ itms 3 qs, (by exact Sub.pull [rowI none 0 3 1 []] _ (.k (.d (.d (.d (.d .rf)))))), nb, nc, qs, by show _ = Value.agg #[vI p.vars, vI ((p.start.toNat * q.next.length + q.start.toNat : Nat) : Int), .slice nb (prNext p.d q.d).length nc, nS]; rw [← hlen9]; rfl, rfl, hnq⟩
theorem pairC (w : World) [Tab Tryd.prog w] (p : Par) (k : DK) (h : AtP w p k) (hv : ValidP p) (q : Par) (k2 : DK) (h2 : AtP w q k2) (hq : ValidP q) (hvv : p.vars = q.vars) (hnm : p.next.length * q.next.length ≤ 4096) :
  PureT Tryd.prog 60 [pV p k, pV q k2] w fun v N => ∃ k9 : DK, v = pV (pairP p q) k9 ∧ N = [pI 23 3 (pairP p q) k9] :=
 (pairC0 w p k h hv q k2 h2 hq hvv hnm).packR fun v O' hR => by
  obtain ⟨nb, nc, qs, rfl, rfl, hq9⟩ := hR
  exact ⟨nums qs = (pairP p q).next, _, [], hq9, (List.append_nil _).symm, ⟨nb, nc, none, 0, qs⟩, rfl, rfl⟩
end Go.Proofs.YtnikhiohindggaaDoor


namespace Go.Lx
open Go.RowKit
def Exact (B : List Item) : Prop := ∀ it ∈ B, ∀ v v' : World, it.P v → it.P v' → ∀ b ∈ it.blocks, v.heap[b]? = v'.heap[b]?
theorem Exact.nil : Exact [] := fun it h => (List.not_mem_nil h).elim
theorem Exact.obj {B : List Item} {b : Nat} {o : Obj} (h : Exact B) : Exact (objI b o :: B) := fun it hit v v' h1 h2 c hc => by
 rcases List.mem_cons.1 hit with rfl | hit
 ·have e : c = b := by simpa [objI] using hc
  subst e
  exact (show v.heap[c]? = some o from h1).trans (show v'.heap[c]? = some o from h2).symm
 ·exact h it hit v v' h1 h2 c hc
def keepI (D : List Nat) (w : World) : Item := ⟨D, fun v => ∀ b ∈ D, v.heap[b]? = w.heap[b]?, fun v v' h hp b hb => by rw [h b hb]; exact hp b hb⟩
theorem NextT.conv {P : Program} {base base2 : World} {M M2 : List Item} {R R2 : Value → List Item → Prop} {x : Result Next} (h : NextT P base M R x) (hc : ∀ v O' w, Inv base (O' ++ M) w → R v O' → ∃ O2, Inv base2 (O2 ++ M2) w ∧ R2 v O2) : NextT P base2 M2 R2 x := by
 cases x with
 | halt e w => exact h
 | ok y w =>
  cases y <;> first
   | exact h
   | exact Calls.mono h fun _ w' ⟨v, O', h1, h2, h3⟩ => by obtain ⟨O2, h4, h5⟩ := hc v O' w' h2 h3; exact ⟨v, O2, h1, h4, h5⟩
   | exact RoundIn.mono h fun _ w' ⟨v, O', h1, h2, h3⟩ => by obtain ⟨O2, h4, h5⟩ := hc v O' w' h2 h3; exact ⟨v, O2, h1, h4, h5⟩
theorem CallV.rebase {P : Program} {base w1 : World} {fv : Value} {args : List Value} {B : List Item} {x : Value} (hI : Inv base B w1) (hx : Exact B) (h : CallV P base fv args B (fun v O' => v = x ∧ O' = B)) : CallV P w1 fv args [] (fun v O' => v = x ∧ O' = []) := fun w M hw => by
 have hw : Inv w1 M w := hw
 have hsz : base.heap.size ≤ w1.heap.size := hI.below.size
 have hsz2 : w1.heap.size ≤ w.heap.size := hw.below.size
 have hbl : Below base.heap.size base w := hI.below.trans (hw.below.mono hsz)
 have hmem : ∀ b, b ∈ (List.range w.heap.size).filter (fun b => decide (base.heap.size ≤ b ∧ b ∉ B.flatMap Item.blocks)) ↔ b < w.heap.size ∧ base.heap.size ≤ b ∧ b ∉ B.flatMap Item.blocks := fun b => by
  rw [List.mem_filter, List.mem_range, decide_eq_true_eq]
 obtain ⟨D, hD⟩ : ∃ D, (List.range w.heap.size).filter (fun b => decide (base.heap.size ≤ b ∧ b ∉ B.flatMap Item.blocks)) = D := ⟨_, rfl⟩
 have hnd : D.Nodup := hD ▸ List.nodup_range.filter _
 rw [hD] at hmem
 have hold : ∀ it ∈ B, it.P w := fun it hit => it.loc w1 w (fun b hb => hw.below.block b (hI.fresh it hit b hb).2) (hI.holds it hit)
 have h0 : Inv base (B ++ [keepI D w]) w := by
  refine ⟨hbl, fun it hit => ?_, fun it hit b hb => ?_, ?_⟩
  ·rcases List.mem_append.1 hit with hit | hit
   ·exact hold it hit
   ·rw [List.mem_singleton.1 hit]; exact fun b _ => rfl
  ·rcases List.mem_append.1 hit with hit | hit
   ·have := hI.fresh it hit b hb; omega
   ·rw [List.mem_singleton.1 hit] at hb
    have := (hmem b).1 hb
    exact ⟨this.2.1, this.1⟩
  ·rw [List.flatMap_append, List.nodup_append]
   refine ⟨hI.nodup, by simpa [keepI] using hnd, fun a ha c hc e => ?_⟩
   have hc2 : c ∈ D := by simpa [keepI] using hc
   exact ((hmem c).1 hc2).2.2 (e ▸ ha)
 refine (h w [keepI D w] h0).conv fun v O' w' hw' ⟨hv, hO⟩ => ⟨[], ?_, hv, rfl⟩
 subst hO
 have hsame : ∀ b, b < w.heap.size → w'.heap[b]? = w.heap[b]? := fun b hb => by
  by_cases h1 : b < base.heap.size
  ·rw [hw'.below.block b h1, hbl.block b h1]
  ·by_cases h2 : b ∈ O'.flatMap Item.blocks
   ·obtain ⟨it, hit, hb2⟩ := List.mem_flatMap.1 h2
    exact hx it hit w' w (hw'.holds it (List.mem_append_left _ hit)) (hold it hit) b hb2
   ·have h3 : (keepI D w).P w' := hw'.holds _ (List.mem_append_right _ List.mem_cons_self)
    exact h3 b ((hmem b).2 ⟨hb, by omega, h2⟩)
 have hge : w.heap.size ≤ w'.heap.size := by
  by_cases h1 : w.heap.size = 0
  ·omega
  ·have h2 := hsame (w.heap.size - 1) (by omega)
   have h3 : w.heap[w.heap.size - 1]? = some w.heap[w.heap.size - 1] := Array.getElem?_eq_getElem (by omega)
   rw [h3] at h2
   have := (Array.getElem?_eq_some_iff.1 h2).1
   omega
 refine ⟨⟨?_, ?_, ?_, by omega, fun k hk => ?_⟩, fun it hit => ?_, fun it hit b hb => ?_, ?_⟩
 ·rw [hw'.below.os, ← hI.below.os]
 ·rw [hw'.below.tape, ← hI.below.tape]
 ·rw [hw'.below.output, ← hI.below.output]
 ·rw [hsame k (by omega)]; exact hw.below.block k hk
 ·exact it.loc w w' (fun b hb => hsame b (hw.fresh it hit b hb).2) (hw.holds it hit)
 ·have := hw.fresh it hit b hb; omega
 ·exact hw.nodup
theorem Res.cell1c {P : Program} {base : World} {ρ : Env} {O : List Item} {fn : Func} {R : Value → List Item → Prop} {a i c e : Nat} (u x : Value) {T E : TypeId} {d : TypeDesc} {z : Value} {s by_ b : Nat} {cs : List Value} {fr : Nat × Nat} (hr : fn.results = #[.cell a T, .tmp c, .tmp e]) (hu : P.underlying T = some d) (ha : aggB d = true) (hi : Inf P T z s by_) (hp : ρ a = .pointer (some ⟨b, 0, none⟩)) (hO : O[i]? = some (objI b (.cells cs.toArray E fr))) (hl : cs.length = s) (hc' : ρ c = u) (he' : ρ e = x)
  (h : R (.tuple #[.agg cs.toArray, u, x]) O) : Res P base fn ρ O R :=
 ⟨⟨_, O, Sub.of (List.Sublist.refl _), h, fun w tmps hI ht => by
  have := run_loadBox (P := P) hu ha hi hl (hI.objAt hO)
  have ht' := ht a
  have hc := ht c
  have he := ht e
  simp only [Array.getD_eq_getD_getElem?] at ht' hc he
  simp [results, hr, ht', hc, hc', he, he', hp, asAddr, this]⟩⟩
def l00 : LK := ⟨none, 0, none, 0⟩
theorem T.nilL {P : Program} {r : Option Nat} {base : World} {n : Nat} {c : Code} {Q : Post} {ρ : Env} {O : List Item} (U8 : TypeId) (h : T P r base n c Q ρ (lI U8 nilLa l00 :: O)) : T P r base n c Q ρ O :=
 T.nilRow U8 1 (T.nilRow U8 1 (T.pack (φ := True) (L := [rowI none 0 U8 1 [], rowI none 0 U8 1 []] ++ []) (M := O) trivial h))
theorem FdR.yes {d : DFA} {al one two : Nat → Bool} {b : Bool} {l : La} (h : FdR d al one two b l) (hb : b = true) : FindOk d al one two (some l) := by unfold FdR at h; rwa [if_pos hb] at h
theorem FdR.no {d : DFA} {al one two : Nat → Bool} {b : Bool} {l : La} (h : FdR d al one two b l) (hb : ¬ b = true) : l = nilLa ∧ ¬ HasD d al one two := by unfold FdR at h; rwa [if_neg hb] at h
def NoD (p q : Par) (i j : Nat) : Prop := ((i : Int) ∈ p.prio) → ((j : Int) ∈ q.prio) → ¬ HasD (prG p q) (alD p q i j) (fun v => decide (f1 p q v = i)) (fun v => decide (f2 q v = j))
theorem noD_all {p q : Par} (h : ∀ i, i < 17 → ∀ j, j ≤ 16 → i % 2 ≠ j % 2 → NoD p q i j) : ¬ differP p q := fun ⟨i, j, h1, h2, h3, h4, h5, h6⟩ => h i (by omega) j h3 h1 h4 h5 h6
theorem prio_nat {p : Par} (hv : ValidP p) (i : Nat) : i ∈ p.prio.map Int.toNat ↔ ((i : Nat) : Int) ∈ p.prio := by
 rw [List.mem_map]
 constructor
 ·rintro ⟨a, ha, rfl⟩
  rw [Int.toNat_of_nonneg (hv.pr a ha).1]; exact ha
 ·exact fun h => ⟨_, h, Int.toNat_natCast i⟩
theorem prio_nats {p : Par} (hv : ValidP p) : nats (p.prio.map Int.toNat) = ints p.prio := by
 unfold nats ints
 rw [List.map_map]
 refine List.map_congr_left fun a ha => ?_
 show Value.int .i64 ((a.toNat : Nat) : Int) = _
 rw [Int.toNat_of_nonneg (hv.pr a ha).1]
end Go.Lx


namespace Go.Proofs.YtnikhiohindggaaDoor
open Go.Lx Go.RowKit _root_.Go.Proofs.Tryd
theorem parWit (w : World) [Tab Tryd.prog w] (p : Par) (k : DK) (h : AtP w p k) (hB : ParC p) :
  PureT Tryd.prog 30 [pV p k] w fun v N => ∃ (l : La) (kl : LK) (e : Nat), v = .tuple #[lV l kl, vI ((e : Nat) : Int)] ∧ N = [lI 5 l kl] ∧ WiR p l e := by
 refine CallT.enter func30 rfl ntmps30 rfl ?_
 have hBn := hB.n; have hBf := hB.f
 refine T.s (T.rg (TO.l rfl (l_box (v := (pV p k)) (cs := (pC p k)) rfl rfl (fun bx1 => ?_))))
 refine TO.l rfl (l_alloc inf28 rfl (fun bx2 => ?_))
 refine TO.qa rfl (TO.nl (T.s (T.s (T.rg (TO.q (q_la 1 underlying25 rfl inf25 rfl rfl rfl) ?_)))))
 have hk10 := fun (w1 : World) (hI : Inv w [oI bx2 28 [nS, nS], oI bx1 25 (pC p k)] w1) => (haveI := Inv.tab (P := Tryd.prog) hI; parCheck w1 p k (hI.atQ h) hB)
 refine TO.l rfl (l_call ent20 (CallT.op hk10) rfl ?_)
 clear hk10
 rintro vr O' ⟨N, rfl, rfl, rfl⟩
 refine TO.qa rfl (TO.nl (T.s (T.rg (TO.qm rfl (TO.q (q_neq rfl rfl) (TO.nl (T.condP rfl (fun hc => ?_) (fun hc => ?_))))))))
 ·have hlt12 : checkP p ≠ 0 := by omega
  refine T.s ?_
  refine T.nilL 5 ?_
  refine T.rg (TO.q (q_build plan28 inf28 rfl) (TO.qm rfl (TO.l rfl (l_sb (v := (.agg #[nS, nS])) (vs := [nS, nS]) 1 inf28 rfl rfl rfl rfl rfl rfl (by simp [putL]) ?_))))
  refine TO.qa rfl (TO.nl (T.ret (Res.drop ?_)))
  refine Res.cell1b (vI (checkP p : Int)) (i := 1) Tryd.results30 underlying28 rfl inf28 rfl rfl rfl rfl ?_
  exact ⟨[lI 5 nilLa l00], (by exact Sub.k .z), nilLa, l00, checkP p, rfl, rfl, .inl ⟨by omega, rfl, rfl⟩⟩
 have hge12 : ¬ checkP p ≠ 0 := by omega
 have he0 : checkP p = 0 := by omega
 have hv : ValidP p := checkP_zero.1 he0
 refine T.skip (T.s (T.s (T.rg (TO.l rfl (l_alloc inf3 rfl (fun bx3 => ?_))))))
 refine TO.l rfl (l_sb (v := vI 0) (vs := [(vI 0)]) 0 inf3 rfl rfl rfl rfl rfl rfl (by simp [putL]) ?_)
 refine TO.nl (T.block ?_)
 refine T.loopS (fun (a : Nat) ρ O => ∃ (kb : Nat), O = [oI kb 3 [vI ((a : Nat) : Int)], oI bx2 28 [nS, nS], oI bx1 25 (pC p k)] ∧ a % 2 = 0 ∧ a ≤ 18 ∧ (∀ k9, k9 < a → k9 % 2 = 0 → ¬ HasD p.d (alW p k9) (topW p k9) (topW p k9)) ∧ Heads [(0, (pV p k)), (1, (.pointer (aD bx1))), (2, (.pointer (aD bx2))), (4, vI (checkP p : Int)), (5, (.pointer (aD kb)))] ρ) (fun a => 18 - a) 0 ?_ ?_
 ·exact ⟨bx3, rfl, rfl, by omega, (fun k9 h9 => absurd h9 (by omega)), (.of rfl)⟩
 rintro a ρ O ⟨kb, rfl, hev, ha18, hno, hH⟩
 obtain ⟨ρ0, rfl⟩ := hH.elim
 clear hH
 refine T.s (T.s (T.rg (TO.q (q_lb 0 underlying3 rfl rfl rfl rfl) (TO.q (q_leq rfl rfl) (TO.nl (T.condP rfl (fun hc => ?_) (fun hc => ?_)))))))
 ·have hlt16 : a ≤ 16 := by omega
  refine T.skip (T.s (T.block (T.s (T.rg (TO.q (q_makeFunc) (TO.qa rfl (TO.nl (T.s (T.rg (TO.q (q_la 2 underlying25 rfl inf25 rfl rfl rfl) (TO.q (q_makeFunc) (TO.qm rfl (TO.qm rfl ?_)))))))))))))
  have hk25 := fun (w1 : World) (hI : Inv w [oI kb 3 [vI ((a : Nat) : Int)], oI bx2 28 [nS, nS], oI bx1 25 (pC p k)] w1) => (haveI := Inv.tab (P := Tryd.prog) hI; findC w1 p k (hI.atQ h) hv.val hv.n4 hv.letN6 [] (alW p a) (topW p a) (topW p a) (.func (.func 67) #[] #[(.pointer (aD bx1)), (.pointer (aD kb))]) (.func (.func 66) #[] #[(.pointer (aD bx1)), (.pointer (aD kb))]) (.func (.func 66) #[] #[(.pointer (aD bx1)), (.pointer (aD kb))]) rfl (fun u hu => CallV.rebase (B := [oI bx1 25 (pC p k), oI kb 3 [vI ((a : Nat) : Int)]]) (hI.subp (by exact Sub.pull [oI kb 3 [vI ((a : Nat) : Int)], oI bx2 28 [nS, nS]] _ (.k .z))) (Exact.obj (Exact.obj Exact.nil)) (CallV.of_fn (first := []) (args := [vI ((u : Nat) : Int)]) (caps := [(.pointer (aD bx1)), (.pointer (aD kb))]) ent67 (leF w p k h hv bx1 kb a u hu))) (fun u hu => CallV.rebase (B := [oI bx1 25 (pC p k), oI kb 3 [vI ((a : Nat) : Int)]]) (hI.subp (by exact Sub.pull [oI kb 3 [vI ((a : Nat) : Int)], oI bx2 28 [nS, nS]] _ (.k .z))) (Exact.obj (Exact.obj Exact.nil)) (CallV.of_fn (first := []) (args := [vI ((u : Nat) : Int)]) (caps := [(.pointer (aD bx1)), (.pointer (aD kb))]) ent66 (topF w p k h hv bx1 kb a u hu))) (fun u hu => CallV.rebase (B := [oI bx1 25 (pC p k), oI kb 3 [vI ((a : Nat) : Int)]]) (hI.subp (by exact Sub.pull [oI kb 3 [vI ((a : Nat) : Int)], oI bx2 28 [nS, nS]] _ (.k .z))) (Exact.obj (Exact.obj Exact.nil)) (CallV.of_fn (first := []) (args := [vI ((u : Nat) : Int)]) (caps := [(.pointer (aD bx1)), (.pointer (aD kb))]) ent66 (topF w p k h hv bx1 kb a u hu))))
  refine TO.l rfl (l_call ent63 (CallT.op hk25) rfl ?_)
  clear hk25
  rintro vr O' ⟨N, rfl, b9, l9, kl9, rfl, rfl, hf9⟩
  refine TO.qm rfl (TO.q (q_extract (vs := _) rfl rfl) (TO.q (q_extract (vs := _) rfl rfl) (TO.l rfl (l_alloc inf28 rfl (fun bx4 => ?_)))))
  refine TO.l rfl (l_sb (v := (lV l9 kl9)) (vs := (lC l9 kl9)) 0 inf28 rfl rfl rfl rfl rfl rfl (by simp [putL]) ?_)
  refine TO.qa rfl (TO.nl (T.s (T.rg (TO.qm rfl (TO.nl (T.condP (p := b9 = true) (congrArg Value.bool (by cases b9 <;> rfl)) (fun hc => ?_) (fun hc => ?_)))))))
  ·have hfs := hf9.yes hc
   refine T.s (T.rg (TO.q (q_la 0 underlying28 rfl inf28 rfl rfl rfl) (TO.l rfl (l_sb (v := (lV l9 kl9)) (vs := (lC l9 kl9)) 3 inf28 rfl rfl rfl rfl rfl rfl (by simp [putL]) ?_))))
   refine TO.qa rfl (TO.nl (T.ret (Res.drop ?_)))
   refine Res.cell1b (vI 0) (i := 3) Tryd.results30 underlying28 rfl inf28 rfl rfl rfl rfl ?_
   exact ⟨[lI 5 l9 kl9], (by exact Sub.d (.k .z)), l9, kl9, 0, rfl, rfl, .inr (.inl ⟨he0, rfl, a, hev, by omega, hfs⟩)⟩
  have hnf := hf9.no hc
  refine T.skip (T.s (T.s (T.rg (TO.q (q_lb 2 underlying3 rfl rfl rfl rfl) (TO.nl (T.rg (TO.l rfl (l_alloc inf3 rfl (fun bx5 => ?_)))))))))
  refine TO.l rfl (l_sb (v := vI ((a : Nat) : Int)) (vs := [(vI ((a : Nat) : Int))]) 0 inf3 rfl rfl rfl rfl rfl rfl (by simp [putL]) ?_)
  refine TO.nl (T.rg (TO.q (q_lb 0 underlying3 rfl rfl rfl rfl) (TO.q (q_addN (a := a) (b := 2) rfl rfl (by omega)) (TO.l rfl (l_sb (v := vI ((a + 2 : Nat) : Int)) (vs := [(vI ((a + 2 : Nat) : Int))]) 0 inf3 rfl rfl rfl rfl rfl rfl (by simp [putL]) ?_)))))
  refine TO.nl ?_
  exact ⟨a + 2, by omega, [oI bx5 3 [(vI ((a + 2 : Nat) : Int))], oI bx2 28 [nS, nS], oI bx1 25 (pC p k)], (by exact Sub.k (.d (.d (.d (.k (.k .z)))))), bx5, rfl, by omega, by omega, (fun k9 h9 e9 => if hlt : k9 < a then hno k9 hlt e9 else by obtain rfl : k9 = a := (by omega); exact hnf.2), (.of rfl)⟩
 have hge16 : ¬ a ≤ 16 := by omega
 refine T.exit ?_
 refine T.s ?_
 refine T.nilL 5 ?_
 refine T.rg (TO.q (q_build plan28 inf28 rfl) (TO.l rfl (l_sb (v := (.agg #[nS, nS])) (vs := [nS, nS]) 2 inf28 rfl rfl rfl rfl rfl rfl (by simp [putL]) ?_)))
 refine TO.qa rfl (TO.nl (T.ret (Res.drop ?_)))
 refine Res.cell1b (vI 9) (i := 2) Tryd.results30 underlying28 rfl inf28 rfl rfl rfl rfl ?_
 exact ⟨[lI 5 nilLa l00], (by exact Sub.k .z), nilLa, l00, 9, rfl, rfl, .inr (.inr ⟨he0, rfl, rfl, fun ⟨k9, h1, h2, h3⟩ => hno k9 (by omega) h1 h3⟩)⟩
end Go.Proofs.YtnikhiohindggaaDoor


namespace Go.Proofs.YtnikhiohindggaaDoor
open Go.Lx Go.RowKit _root_.Go.Proofs.Tryd
theorem containsP (w : World) [Tab Tryd.prog w] (p : Par) (k : DK) (h : AtP w p k) (hv : ValidP p) (i : Nat) :
  PureT Tryd.prog 61 [.slice k.fb p.prio.length k.fc, vI ((i : Nat) : Int)] w fun r N => r = .bool (decide (((i : Nat) : Int) ∈ p.prio)) ∧ N = [] := by
 have h9 := containsN w k.fb k.fc (p.prio.map Int.toNat) (by rw [prio_nats hv]; exact h.prio) (by rw [List.length_map, hv.pl]; have := hv.n4; omega) i
 rw [List.length_map, show decide (i ∈ p.prio.map Int.toNat) = decide (((i : Nat) : Int) ∈ p.prio) from decide_eq_decide.2 (prio_nat hv i)] at h9
 exact h9
theorem parDif (w : World) [Tab Tryd.prog w] (p : Par) (k : DK) (h : AtP w p k) (q : Par) (k2 : DK) (h2 : AtP w q k2) (hB : ParC p) (hB2 : ParC q) (hsz : diE p q = 0 → p.next.length * q.next.length ≤ 4096) :
  PureT Tryd.prog 29 [pV p k, pV q k2] w fun v N => ∃ (l : La) (kl : LK) (b : Bool) (e : Nat), v = .tuple #[lV l kl, .bool b, vI ((e : Nat) : Int)] ∧ N = [lI 5 l kl] ∧ DiR p q l b e := by
 refine CallT.enter func29 rfl ntmps29 rfl ?_
 have hBn := hB.n; have hBf := hB.f
 refine T.s (T.rg (TO.l rfl (l_box (v := (pV p k)) (cs := (pC p k)) rfl rfl (fun bx1 => ?_))))
 refine TO.l rfl (l_box (v := (pV q k2)) (cs := (pC q k2)) rfl rfl (fun bx2 => ?_))
 refine TO.l rfl (l_alloc inf28 rfl (fun bx3 => ?_))
 refine TO.qa rfl (TO.qa rfl (TO.nl (T.s (T.s (T.rg (TO.q (q_la 2 underlying25 rfl inf25 rfl rfl rfl) (TO.q (q_la 1 underlying25 rfl inf25 rfl rfl rfl) (TO.l rfl (l_buildSlice (m := 2) (parts := [(0, _), (1, _)]) (cs := [(vI p.vars), (vI p.start), (.slice k.nb p.next.length k.nc), (.slice k.fb p.prio.length k.fc), (vI q.vars), (vI q.start), (.slice k2.nb q.next.length k2.nc), (.slice k2.fb q.prio.length k2.fc)]) underlying59 inf25 (by decide) (by kernel_rfl) rfl (fun bx4 => ?_))))))))))
 refine TO.q (q_len underlying59 rfl) (TO.qm rfl (TO.nl (T.block ?_)))
 refine T.rounds 3 (T.round ?_)
 refine T.s (T.rg (TO.q (QT.toB (q_lss rfl rfl) (b' := true) rfl) (TO.nl (T.s ?_))))
 refine T.cond1 rfl ?_
 refine T.skip (T.s (T.block (T.s (T.rg (TO.q (q_ixK (i := 0) underlying59 inf25 rfl rfl (rowO (mG 0 rfl)) (by first | assumption | omega | (simp; omega) | simp_all) (by first | omega | (simp; done) | (simp; omega) | (simp_all; done) | (simp_all; omega))) (TO.q (q_ldK (vs := (pC p k)) underlying25 rfl inf25 rfl rfl (Nat.succ_pos _) (rowO (mG 0 rfl)) (fun j hj => by match j, hj with | 0, _ => rfl | 1, _ => rfl | 2, _ => rfl | 3, _ => rfl)) (TO.l rfl (l_alloc inf25 rfl (fun bx5 => ?_)))))))))
 refine TO.l rfl (l_sb (v := (pV p k)) (vs := (pC p k)) 0 inf25 rfl rfl rfl rfl rfl rfl (by simp [putL]) ?_)
 refine TO.nl (T.s (T.rg (TO.q (q_la 0 underlying25 rfl inf25 rfl rfl rfl) ?_)))
 have hk24 := fun (w1 : World) (hI : Inv w [oI bx5 25 (pC p k), rowI (aD bx4) 2 25 4 [(vI p.vars), (vI p.start), (.slice k.nb p.next.length k.nc), (.slice k.fb p.prio.length k.fc), (vI q.vars), (vI q.start), (.slice k2.nb q.next.length k2.nc), (.slice k2.fb q.prio.length k2.fc)], oI bx3 28 [nS, nS], oI bx2 25 (pC q k2), oI bx1 25 (pC p k)] w1) => (haveI := Inv.tab (P := Tryd.prog) hI; parCheck w1 p k (hI.atQ h) hB)
 refine TO.l rfl (l_call ent20 (CallT.op hk24) rfl ?_)
 clear hk24
 rintro vr O' ⟨N, rfl, rfl, rfl⟩
 refine TO.qa rfl (TO.nl (T.s (T.rg (TO.qm rfl (TO.q (q_neq rfl rfl) (TO.nl (T.condP rfl (fun hc => ?_) (fun hc => ?_))))))))
 ·have hlt26 : checkP p ≠ 0 := by omega
  have hdn : diE p q = checkP p := by unfold diE; rw [if_pos (by omega)]
  have hdz : diE p q ≠ 0 := by omega
  refine T.s ?_
  refine T.nilL 5 ?_
  refine T.rg (TO.q (q_la 3 underlying28 rfl inf28 rfl rfl rfl) (TO.qm rfl (TO.l rfl (l_sb (v := (.agg #[nS, nS])) (vs := [nS, nS]) 3 inf28 rfl rfl rfl rfl rfl rfl (by simp [putL]) ?_))))
  refine TO.qa rfl (TO.qa rfl (TO.nl (T.ret (Res.drop ?_))))
  refine Res.cell1c (i := 3) (.bool false) (vI (checkP p : Int)) Tryd.results29 underlying28 rfl inf28 rfl rfl rfl rfl rfl ?_
  exact ⟨[lI 5 nilLa l00], (by exact Sub.k .z), nilLa, l00, false, checkP p, rfl, rfl, .inl ⟨hdz, hdn.symm, rfl, rfl⟩⟩
 have hge26 : ¬ checkP p ≠ 0 := by omega
 have he1 : checkP p = 0 := by omega
 refine T.skip (T.rg (TO.q (QT.cast (q_add64 rfl rfl (by omega)) (v' := vI 1) rfl) (TO.qm rfl (TO.nl ?_))))
 refine Rnd.reset [oI bx5 25 (pC p k), rowI (aD bx4) 2 25 4 [(vI p.vars), (vI p.start), (.slice k.nb p.next.length k.nc), (.slice k.fb p.prio.length k.fc), (vI q.vars), (vI q.start), (.slice k2.nb q.next.length k2.nc), (.slice k2.fb q.prio.length k2.fc)], oI bx3 28 [nS, nS], oI bx2 25 (pC q k2), oI bx1 25 (pC p k)] [(0, (pV p k)), (1, (pV q k2)), (2, (.pointer (aD bx1))), (3, (.pointer (aD bx2))), (4, (.pointer (aD bx3))), (5, .bool false), (6, vI 0), (8, (.pointer (aD bx5))), (9, vI (checkP p : Int)), (15, (pV p k)), (16, (pV q k2)), (17, (.slice (aD bx4) 2 2)), (18, vI 2), (19, vI 1)] rfl (.of rfl) (fun ρ0 => ?_)
 refine T.round ?_
 refine T.s (T.rg (TO.q (QT.toB (q_lss rfl rfl) (b' := true) rfl) (TO.nl (T.s ?_))))
 refine T.cond1 rfl ?_
 refine T.skip (T.s (T.block (T.s (T.rg (TO.q (q_ixK (i := 1) underlying59 inf25 rfl rfl (rowO (mG 1 rfl)) (by first | assumption | omega | (simp; omega) | simp_all) (by first | omega | (simp; done) | (simp; omega) | (simp_all; done) | (simp_all; omega))) (TO.q (q_ldK (vs := (pC q k2)) underlying25 rfl inf25 rfl rfl (Nat.succ_pos _) (rowO (mG 1 rfl)) (fun j hj => by match j, hj with | 0, _ => rfl | 1, _ => rfl | 2, _ => rfl | 3, _ => rfl)) (TO.l rfl (l_alloc inf25 rfl (fun bx6 => ?_)))))))))
 refine TO.l rfl (l_sb (v := (pV q k2)) (vs := (pC q k2)) 0 inf25 rfl rfl rfl rfl rfl rfl (by simp [putL]) ?_)
 refine TO.nl (T.s (T.rg (TO.q (q_la 0 underlying25 rfl inf25 rfl rfl rfl) ?_)))
 have hk24 := fun (w1 : World) (hI : Inv w [oI bx6 25 (pC q k2), oI bx5 25 (pC p k), rowI (aD bx4) 2 25 4 [(vI p.vars), (vI p.start), (.slice k.nb p.next.length k.nc), (.slice k.fb p.prio.length k.fc), (vI q.vars), (vI q.start), (.slice k2.nb q.next.length k2.nc), (.slice k2.fb q.prio.length k2.fc)], oI bx3 28 [nS, nS], oI bx2 25 (pC q k2), oI bx1 25 (pC p k)] w1) => (haveI := Inv.tab (P := Tryd.prog) hI; parCheck w1 q k2 (hI.atQ h2) hB2)
 refine TO.l rfl (l_call ent20 (CallT.op hk24) rfl ?_)
 clear hk24
 rintro vr O' ⟨N, rfl, rfl, rfl⟩
 refine TO.qa rfl (TO.nl (T.s (T.rg (TO.qm rfl (TO.q (q_neq rfl rfl) (TO.nl (T.condP rfl (fun hc => ?_) (fun hc => ?_))))))))
 ·have hlt26 : checkP q ≠ 0 := by omega
  have hdn : diE p q = checkP q := by unfold diE; rw [if_neg (by omega), if_pos (by omega)]
  have hdz : diE p q ≠ 0 := by omega
  refine T.s ?_
  refine T.nilL 5 ?_
  refine T.rg (TO.q (q_la 4 underlying28 rfl inf28 rfl rfl rfl) (TO.qm rfl (TO.l rfl (l_sb (v := (.agg #[nS, nS])) (vs := [nS, nS]) 4 inf28 rfl rfl rfl rfl rfl rfl (by simp [putL]) ?_))))
  refine TO.qa rfl (TO.qa rfl (TO.nl (T.ret (Res.drop ?_))))
  refine Res.cell1c (i := 4) (.bool false) (vI (checkP q : Int)) Tryd.results29 underlying28 rfl inf28 rfl rfl rfl rfl rfl ?_
  exact ⟨[lI 5 nilLa l00], (by exact Sub.k .z), nilLa, l00, false, checkP q, rfl, rfl, .inl ⟨hdz, hdn.symm, rfl, rfl⟩⟩
 have hge26 : ¬ checkP q ≠ 0 := by omega
 have he2 : checkP q = 0 := by omega
 refine T.skip (T.rg (TO.q (QT.cast (q_add64 rfl rfl (by omega)) (v' := vI 2) rfl) (TO.qm rfl (TO.nl ?_))))
 refine Rnd.reset [oI bx6 25 (pC q k2), oI bx5 25 (pC p k), rowI (aD bx4) 2 25 4 [(vI p.vars), (vI p.start), (.slice k.nb p.next.length k.nc), (.slice k.fb p.prio.length k.fc), (vI q.vars), (vI q.start), (.slice k2.nb q.next.length k2.nc), (.slice k2.fb q.prio.length k2.fc)], oI bx3 28 [nS, nS], oI bx2 25 (pC q k2), oI bx1 25 (pC p k)] [(0, (pV p k)), (1, (pV q k2)), (2, (.pointer (aD bx1))), (3, (.pointer (aD bx2))), (4, (.pointer (aD bx3))), (5, .bool false), (6, vI 0), (8, (.pointer (aD bx6))), (9, vI (checkP q : Int)), (15, (pV p k)), (16, (pV q k2)), (17, (.slice (aD bx4) 2 2)), (18, vI 2), (19, vI 2)] rfl (.of rfl) (fun ρ0 => ?_)
 refine T.round ?_
 refine T.s (T.rg (TO.q (QT.toB (q_lss rfl rfl) (b' := false) rfl) (TO.nl (T.s (T.cond0 rfl ?_)))))
 refine T.exit ?_
 refine T.s (T.s (T.rg (TO.q (q_fa underlying25 rfl inf3 rfl rfl) (TO.q (q_lb 5 underlying3 rfl rfl rfl rfl) (TO.q (q_fa underlying25 rfl inf3 rfl rfl) (TO.q (q_lb 4 underlying3 rfl rfl rfl rfl) (TO.q (q_neq rfl rfl) (TO.nl (T.condP (p := ¬ p.vars = q.vars) rfl (fun hc => ?_) (fun hc => ?_))))))))))
 ·have hdn : diE p q = 7 := by unfold diE; rw [if_neg (by omega), if_neg (by omega), if_pos hc]
  have hdz : diE p q ≠ 0 := by omega
  refine T.s ?_
  refine T.nilL 5 ?_
  refine T.rg (TO.q (q_la 4 underlying28 rfl inf28 rfl rfl rfl) (TO.l rfl (l_sb (v := (.agg #[nS, nS])) (vs := [nS, nS]) 4 inf28 rfl rfl rfl rfl rfl rfl (by simp [putL]) ?_)))
  refine TO.qa rfl (TO.qa rfl (TO.nl (T.ret (Res.drop ?_))))
  refine Res.cell1c (i := 4) (.bool false) (vI 7) Tryd.results29 underlying28 rfl inf28 rfl rfl rfl rfl rfl ?_
  exact ⟨[lI 5 nilLa l00], (by exact Sub.k .z), nilLa, l00, false, 7, rfl, rfl, .inl ⟨hdz, hdn.symm, rfl, rfl⟩⟩
 have hvv : p.vars = q.vars := Classical.not_not.1 hc
 have hv : ValidP p := checkP_zero.1 he1
 have hq : ValidP q := checkP_zero.1 he2
 have hd0 : diE p q = 0 := diE_zero.2 ⟨hv, hq, hvv⟩
 have hnm := hsz hd0
 have hpn : (pairP p q).next.length = p.next.length * q.next.length := prNext_len p.d q.d
 have hGv : Val (pairP p q).d := (prP_valid hv hq hvv (f := fun _ => 0) (fun _ => Nat.zero_le _) hnm).val
 have hGw : letN (pairP p q).d ≤ 64 := hv.letN6
 refine T.skip ?_
 refine T.cut (fun ρ O => ∃ (zT zM : Nat) (k9 : DK), O = [oI zT 25 (pC (pairP p q) k9), oI zM 3 [(vI (q.next.length : Int))], pI 23 3 (pairP p q) k9, oI bx6 25 (pC q k2), oI bx5 25 (pC p k), rowI (aD bx4) 2 25 4 [(vI p.vars), (vI p.start), (.slice k.nb p.next.length k.nc), (.slice k.fb p.prio.length k.fc), (vI q.vars), (vI q.start), (.slice k2.nb q.next.length k2.nc), (.slice k2.fb q.prio.length k2.fc)], oI bx3 28 [nS, nS], oI bx2 25 (pC q k2), oI bx1 25 (pC p k)] ∧ Heads [(0, (pV p k)), (1, (pV q k2)), (2, (.pointer (aD bx1))), (3, (.pointer (aD bx2))), (4, (.pointer (aD bx3))), (5, .bool false), (6, vI 0), (8, (.pointer (aD bx6))), (9, vI (checkP q : Int)), (10, (.pointer (aD zT))), (11, (.pointer (aD zM)))] ρ) ?_ ?_
 ·refine T.tree [oI bx6 25 (pC q k2), oI bx5 25 (pC p k), oI bx2 25 (pC q k2), oI bx1 25 (pC p k)] 10 mixed rfl (by exact Sub.k (.k (.d (.d (.k (.k .z)))))) (fun _ _ _ h => h) ?_
  refine RO.quietT 0 rfl (by kernel_rfl) (q_la 3 underlying25 rfl inf25 rfl rfl rfl) ?_
  refine RO.quietT 1 rfl (by kernel_rfl) (q_la 2 underlying25 rfl inf25 rfl rfl rfl) ?_
  refine RO.quietT 3 rfl (by kernel_rfl) (q_fa underlying25 rfl inf22 rfl rfl) ?_
  refine RO.quietT 4 rfl (by kernel_rfl) (q_lb 2 underlying22 rfl rfl rfl rfl) ?_
  refine RO.quietT 5 rfl (by kernel_rfl) (q_len underlying22 rfl) ?_
  have hk38 := fun (w1 : World) (hI : Inv w [oI bx6 25 (pC q k2), oI bx5 25 (pC p k), rowI (aD bx4) 2 25 4 [(vI p.vars), (vI p.start), (.slice k.nb p.next.length k.nc), (.slice k.fb p.prio.length k.fc), (vI q.vars), (vI q.start), (.slice k2.nb q.next.length k2.nc), (.slice k2.fb q.prio.length k2.fc)], oI bx3 28 [nS, nS], oI bx2 25 (pC q k2), oI bx1 25 (pC p k)] w1) => (haveI := Inv.tab (P := Tryd.prog) hI; pairC w1 p k (hI.atQ h) hv q k2 (hI.atQ h2) hq hvv hnm)
  refine RO.fork [2, 6, 7] (by kernel_rfl) rfl ⟨⟨_, rfl, rfl, l_call ent60 (CallT.op hk38) rfl ?_⟩, ⟨_, rfl, rfl, l_alloc inf25 rfl (fun zT => ⟨by exact Sub.d (.k (.k (.d (.d (.k (.k .z)))))), ?_⟩)⟩, ⟨_, rfl, rfl, l_alloc inf3 rfl (fun zM => ⟨by exact Sub.d (.k (.k (.d (.d (.k (.k .z)))))), ?_⟩)⟩, trivial⟩
  ·clear hk38
   rintro vr O' ⟨N, rfl, k9, rfl, rfl⟩
   refine ⟨by exact Sub.d (.k (.k (.d (.d (.k (.k .z)))))), ?_⟩
   refine RO.fork [6, 7] (by kernel_rfl) rfl ⟨⟨_, rfl, rfl, l_alloc inf25 rfl (fun zT => ⟨by exact Sub.d (.d (.k (.k (.d (.d (.k (.k .z))))))), ?_⟩)⟩, ⟨_, rfl, rfl, l_alloc inf3 rfl (fun zM => ⟨by exact Sub.d (.d (.k (.k (.d (.d (.k (.k .z))))))), ?_⟩)⟩, trivial⟩
   ·refine RO.fork [7] (by kernel_rfl) rfl ⟨⟨_, rfl, rfl, l_alloc inf3 rfl (fun zM => ⟨by exact Sub.d (.d (.d (.k (.k (.d (.d (.k (.k .z)))))))), ?_⟩)⟩, trivial⟩
    refine RO.fork [8] (by kernel_rfl) rfl ⟨⟨_, rfl, rfl, l_sb (v := (pV (pairP p q) k9)) (vs := (pC (pairP p q) k9)) 1 inf25 rfl rfl rfl rfl rfl rfl (by simp [putL]) ⟨by exact Sub.d (.d (.d (.k (.k (.d (.d (.k (.k .z)))))))), ?_⟩⟩, trivial⟩
    refine RO.fork [9] (by kernel_rfl) rfl ⟨⟨_, rfl, rfl, l_sb (v := vI (q.next.length : Int)) (vs := [(vI (q.next.length : Int))]) 0 inf3 rfl rfl rfl rfl rfl rfl (by simp [putL]) ⟨by exact Sub.d (.d (.d (.k (.k (.d (.d (.k (.k .z)))))))), ?_⟩⟩, trivial⟩
    exact RO.fin (by kernel_rfl) ⟨zT, zM, k9, rfl, (.of rfl)⟩ (by exact Sub.pull [oI zM 3 [(vI (q.next.length : Int))]] _ (.k (.k (.k (.k (.k (.k (.k (.k .z)))))))))
   refine RO.fork [6] (by kernel_rfl) rfl ⟨⟨_, rfl, rfl, l_alloc inf25 rfl (fun zT => ⟨by exact Sub.d (.d (.d (.k (.k (.d (.d (.k (.k .z)))))))), ?_⟩)⟩, trivial⟩
   refine RO.fork [8] (by kernel_rfl) rfl ⟨⟨_, rfl, rfl, l_sb (v := (pV (pairP p q) k9)) (vs := (pC (pairP p q) k9)) 0 inf25 rfl rfl rfl rfl rfl rfl (by simp [putL]) ⟨by exact Sub.d (.d (.d (.k (.k (.d (.d (.k (.k .z)))))))), ?_⟩⟩, trivial⟩
   refine RO.fork [9] (by kernel_rfl) rfl ⟨⟨_, rfl, rfl, l_sb (v := vI (q.next.length : Int)) (vs := [(vI (q.next.length : Int))]) 1 inf3 rfl rfl rfl rfl rfl rfl (by simp [putL]) ⟨by exact Sub.d (.d (.d (.k (.k (.d (.d (.k (.k .z)))))))), ?_⟩⟩, trivial⟩
   exact RO.fin (by kernel_rfl) ⟨zT, zM, k9, rfl, (.of rfl)⟩ (by exact Sub.rf)
  ·have hk38 := fun (w1 : World) (hI : Inv w [oI zT 25 [(vI 0), (vI 0), nS, nS], oI bx6 25 (pC q k2), oI bx5 25 (pC p k), rowI (aD bx4) 2 25 4 [(vI p.vars), (vI p.start), (.slice k.nb p.next.length k.nc), (.slice k.fb p.prio.length k.fc), (vI q.vars), (vI q.start), (.slice k2.nb q.next.length k2.nc), (.slice k2.fb q.prio.length k2.fc)], oI bx3 28 [nS, nS], oI bx2 25 (pC q k2), oI bx1 25 (pC p k)] w1) => (haveI := Inv.tab (P := Tryd.prog) hI; pairC w1 p k (hI.atQ h) hv q k2 (hI.atQ h2) hq hvv hnm)
   refine RO.fork [2, 7] (by kernel_rfl) rfl ⟨⟨_, rfl, rfl, l_call ent60 (CallT.op hk38) rfl ?_⟩, ⟨_, rfl, rfl, l_alloc inf3 rfl (fun zM => ⟨by exact Sub.d (.d (.k (.k (.d (.d (.k (.k .z))))))), ?_⟩)⟩, trivial⟩
   ·clear hk38
    rintro vr O' ⟨N, rfl, k9, rfl, rfl⟩
    refine ⟨by exact Sub.d (.d (.k (.k (.d (.d (.k (.k .z))))))), ?_⟩
    refine RO.fork [7] (by kernel_rfl) rfl ⟨⟨_, rfl, rfl, l_alloc inf3 rfl (fun zM => ⟨by exact Sub.d (.d (.d (.k (.k (.d (.d (.k (.k .z)))))))), ?_⟩)⟩, trivial⟩
    refine RO.fork [8] (by kernel_rfl) rfl ⟨⟨_, rfl, rfl, l_sb (v := (pV (pairP p q) k9)) (vs := (pC (pairP p q) k9)) 2 inf25 rfl rfl rfl rfl rfl rfl (by simp [putL]) ⟨by exact Sub.d (.d (.d (.k (.k (.d (.d (.k (.k .z)))))))), ?_⟩⟩, trivial⟩
    refine RO.fork [9] (by kernel_rfl) rfl ⟨⟨_, rfl, rfl, l_sb (v := vI (q.next.length : Int)) (vs := [(vI (q.next.length : Int))]) 0 inf3 rfl rfl rfl rfl rfl rfl (by simp [putL]) ⟨by exact Sub.d (.d (.d (.k (.k (.d (.d (.k (.k .z)))))))), ?_⟩⟩, trivial⟩
    exact RO.fin (by kernel_rfl) ⟨zT, zM, k9, rfl, (.of rfl)⟩ (by exact Sub.pull [oI zM 3 [(vI (q.next.length : Int))], pI 23 3 (pairP p q) k9] _ (.k (.k (.k (.k (.k (.k (.k (.k .z)))))))))
   have hk38 := fun (w1 : World) (hI : Inv w [oI zM 3 [(vI 0)], oI zT 25 [(vI 0), (vI 0), nS, nS], oI bx6 25 (pC q k2), oI bx5 25 (pC p k), rowI (aD bx4) 2 25 4 [(vI p.vars), (vI p.start), (.slice k.nb p.next.length k.nc), (.slice k.fb p.prio.length k.fc), (vI q.vars), (vI q.start), (.slice k2.nb q.next.length k2.nc), (.slice k2.fb q.prio.length k2.fc)], oI bx3 28 [nS, nS], oI bx2 25 (pC q k2), oI bx1 25 (pC p k)] w1) => (haveI := Inv.tab (P := Tryd.prog) hI; pairC w1 p k (hI.atQ h) hv q k2 (hI.atQ h2) hq hvv hnm)
   refine RO.fork [2] (by kernel_rfl) rfl ⟨⟨_, rfl, rfl, l_call ent60 (CallT.op hk38) rfl ?_⟩, trivial⟩
   clear hk38
   rintro vr O' ⟨N, rfl, k9, rfl, rfl⟩
   refine ⟨by exact Sub.d (.d (.d (.k (.k (.d (.d (.k (.k .z)))))))), ?_⟩
   refine RO.fork [8] (by kernel_rfl) rfl ⟨⟨_, rfl, rfl, l_sb (v := (pV (pairP p q) k9)) (vs := (pC (pairP p q) k9)) 2 inf25 rfl rfl rfl rfl rfl rfl (by simp [putL]) ⟨by exact Sub.d (.d (.d (.k (.k (.d (.d (.k (.k .z)))))))), ?_⟩⟩, trivial⟩
   refine RO.fork [9] (by kernel_rfl) rfl ⟨⟨_, rfl, rfl, l_sb (v := vI (q.next.length : Int)) (vs := [(vI (q.next.length : Int))]) 1 inf3 rfl rfl rfl rfl rfl rfl (by simp [putL]) ⟨by exact Sub.d (.d (.d (.k (.k (.d (.d (.k (.k .z)))))))), ?_⟩⟩, trivial⟩
   exact RO.fin (by kernel_rfl) ⟨zT, zM, k9, rfl, (.of rfl)⟩ (by exact Sub.pull [pI 23 3 (pairP p q) k9, oI zM 3 [(vI (q.next.length : Int))]] _ (.pull [pI 23 3 (pairP p q) k9] _ (.k (.k (.k (.k (.k (.k (.k .z)))))))))
  have hk38 := fun (w1 : World) (hI : Inv w [oI zM 3 [(vI 0)], oI bx6 25 (pC q k2), oI bx5 25 (pC p k), rowI (aD bx4) 2 25 4 [(vI p.vars), (vI p.start), (.slice k.nb p.next.length k.nc), (.slice k.fb p.prio.length k.fc), (vI q.vars), (vI q.start), (.slice k2.nb q.next.length k2.nc), (.slice k2.fb q.prio.length k2.fc)], oI bx3 28 [nS, nS], oI bx2 25 (pC q k2), oI bx1 25 (pC p k)] w1) => (haveI := Inv.tab (P := Tryd.prog) hI; pairC w1 p k (hI.atQ h) hv q k2 (hI.atQ h2) hq hvv hnm)
  refine RO.fork [2, 6] (by kernel_rfl) rfl ⟨⟨_, rfl, rfl, l_call ent60 (CallT.op hk38) rfl ?_⟩, ⟨_, rfl, rfl, l_alloc inf25 rfl (fun zT => ⟨by exact Sub.d (.d (.k (.k (.d (.d (.k (.k .z))))))), ?_⟩)⟩, trivial⟩
  ·clear hk38
   rintro vr O' ⟨N, rfl, k9, rfl, rfl⟩
   refine ⟨by exact Sub.d (.d (.k (.k (.d (.d (.k (.k .z))))))), ?_⟩
   refine RO.fork [6] (by kernel_rfl) rfl ⟨⟨_, rfl, rfl, l_alloc inf25 rfl (fun zT => ⟨by exact Sub.d (.d (.d (.k (.k (.d (.d (.k (.k .z)))))))), ?_⟩)⟩, trivial⟩
   refine RO.fork [8] (by kernel_rfl) rfl ⟨⟨_, rfl, rfl, l_sb (v := (pV (pairP p q) k9)) (vs := (pC (pairP p q) k9)) 0 inf25 rfl rfl rfl rfl rfl rfl (by simp [putL]) ⟨by exact Sub.d (.d (.d (.k (.k (.d (.d (.k (.k .z)))))))), ?_⟩⟩, trivial⟩
   refine RO.fork [9] (by kernel_rfl) rfl ⟨⟨_, rfl, rfl, l_sb (v := vI (q.next.length : Int)) (vs := [(vI (q.next.length : Int))]) 2 inf3 rfl rfl rfl rfl rfl rfl (by simp [putL]) ⟨by exact Sub.d (.d (.d (.k (.k (.d (.d (.k (.k .z)))))))), ?_⟩⟩, trivial⟩
   exact RO.fin (by kernel_rfl) ⟨zT, zM, k9, rfl, (.of rfl)⟩ (by exact Sub.k (.pull [pI 23 3 (pairP p q) k9] _ (.k (.k (.k (.k (.k (.k (.k .z)))))))))
  have hk38 := fun (w1 : World) (hI : Inv w [oI zT 25 [(vI 0), (vI 0), nS, nS], oI zM 3 [(vI 0)], oI bx6 25 (pC q k2), oI bx5 25 (pC p k), rowI (aD bx4) 2 25 4 [(vI p.vars), (vI p.start), (.slice k.nb p.next.length k.nc), (.slice k.fb p.prio.length k.fc), (vI q.vars), (vI q.start), (.slice k2.nb q.next.length k2.nc), (.slice k2.fb q.prio.length k2.fc)], oI bx3 28 [nS, nS], oI bx2 25 (pC q k2), oI bx1 25 (pC p k)] w1) => (haveI := Inv.tab (P := Tryd.prog) hI; pairC w1 p k (hI.atQ h) hv q k2 (hI.atQ h2) hq hvv hnm)
  refine RO.fork [2] (by kernel_rfl) rfl ⟨⟨_, rfl, rfl, l_call ent60 (CallT.op hk38) rfl ?_⟩, trivial⟩
  clear hk38
  rintro vr O' ⟨N, rfl, k9, rfl, rfl⟩
  refine ⟨by exact Sub.d (.d (.d (.k (.k (.d (.d (.k (.k .z)))))))), ?_⟩
  refine RO.fork [8] (by kernel_rfl) rfl ⟨⟨_, rfl, rfl, l_sb (v := (pV (pairP p q) k9)) (vs := (pC (pairP p q) k9)) 1 inf25 rfl rfl rfl rfl rfl rfl (by simp [putL]) ⟨by exact Sub.d (.d (.d (.k (.k (.d (.d (.k (.k .z)))))))), ?_⟩⟩, trivial⟩
  refine RO.fork [9] (by kernel_rfl) rfl ⟨⟨_, rfl, rfl, l_sb (v := vI (q.next.length : Int)) (vs := [(vI (q.next.length : Int))]) 2 inf3 rfl rfl rfl rfl rfl rfl (by simp [putL]) ⟨by exact Sub.d (.d (.d (.k (.k (.d (.d (.k (.k .z)))))))), ?_⟩⟩, trivial⟩
  exact RO.fin (by kernel_rfl) ⟨zT, zM, k9, rfl, (.of rfl)⟩ (by exact Sub.pull [pI 23 3 (pairP p q) k9] _ (.pull [pI 23 3 (pairP p q) k9] _ (.k (.k (.k (.k (.k (.k (.k .z)))))))))
 rintro ρ O ⟨zT, zM, k9, rfl, hH⟩
 obtain ⟨ρ0, rfl⟩ := hH.elim
 clear hH
 refine T.s (T.s (T.rg (TO.qm rfl (TO.nl (T.block ?_)))))
 refine T.loopS (fun (a : Nat) ρ O => ∃ (kz : LK), O = [oI zT 25 (pC (pairP p q) k9), oI zM 3 [(vI (q.next.length : Int))], pI 23 3 (pairP p q) k9, oI bx6 25 (pC q k2), oI bx5 25 (pC p k), rowI (aD bx4) 2 25 4 [(vI p.vars), (vI p.start), (.slice k.nb p.next.length k.nc), (.slice k.fb p.prio.length k.fc), (vI q.vars), (vI q.start), (.slice k2.nb q.next.length k2.nc), (.slice k2.fb q.prio.length k2.fc)], oI bx3 28 (lC nilLa kz), oI bx2 25 (pC q k2), oI bx1 25 (pC p k)] ∧ a ≤ 17 ∧ (∀ i9, i9 < a → ∀ j9, j9 ≤ 16 → i9 % 2 ≠ j9 % 2 → NoD p q i9 j9) ∧ Heads [(0, (pV p k)), (1, (pV q k2)), (2, (.pointer (aD bx1))), (3, (.pointer (aD bx2))), (4, (.pointer (aD bx3))), (5, .bool false), (8, (.pointer (aD bx6))), (9, vI (checkP q : Int)), (10, (.pointer (aD zT))), (11, (.pointer (aD zM))), (42, vI ((a : Nat) : Int))] ρ) (fun a => 17 - a) 0 ?_ ?_
 ·exact ⟨l00, rfl, by omega, (fun i9 h9 => absurd h9 (by omega)), (.of rfl)⟩
 rintro a ρ O ⟨kz, rfl, ha17, hnd, hH⟩
 obtain ⟨ρ0, rfl⟩ := hH.elim
 clear hH
 refine T.s (T.rg (TO.q (q_lss rfl rfl) (TO.nl (T.s (T.condP rfl (fun hc => ?_) (fun hc => ?_))))))
 ·have hlt43 : a < 17 := by omega
  refine T.skip (T.s (T.block (T.s (T.rg (TO.qm rfl (TO.l rfl (l_alloc inf3 rfl (fun bx7 => ?_))))))))
  refine TO.l rfl (l_sb (v := vI ((a : Nat) : Int)) (vs := [(vI ((a : Nat) : Int))]) 0 inf3 rfl rfl rfl rfl rfl rfl (by simp [putL]) ?_)
  refine TO.nl (T.s (T.rg (TO.q (q_lb 0 underlying3 rfl rfl rfl rfl) (TO.q (q_remN (a := a) (b := 2) rfl rfl (by omega)) (TO.q (q_subN (a := 1) (b := (a % 2)) rfl rfl (by omega) (by omega)) (TO.l rfl (l_alloc inf3 rfl (fun bx8 => ?_))))))))
  refine TO.l rfl (l_sb (v := vI ((1 - (a % 2) : Nat) : Int)) (vs := [(vI ((1 - (a % 2) : Nat) : Int))]) 0 inf3 rfl rfl rfl rfl rfl rfl (by simp [putL]) ?_)
  refine TO.nl (T.block ?_)
  refine T.loopS (fun (c : Nat) ρ O => ∃ (jb : Nat) (kz : LK), O = [oI jb 3 [vI ((c : Nat) : Int)], oI bx7 3 [(vI ((a : Nat) : Int))], oI zT 25 (pC (pairP p q) k9), oI zM 3 [(vI (q.next.length : Int))], pI 23 3 (pairP p q) k9, oI bx6 25 (pC q k2), oI bx5 25 (pC p k), rowI (aD bx4) 2 25 4 [(vI p.vars), (vI p.start), (.slice k.nb p.next.length k.nc), (.slice k.fb p.prio.length k.fc), (vI q.vars), (vI q.start), (.slice k2.nb q.next.length k2.nc), (.slice k2.fb q.prio.length k2.fc)], oI bx3 28 (lC nilLa kz), oI bx2 25 (pC q k2), oI bx1 25 (pC p k)] ∧ a % 2 ≠ c % 2 ∧ c ≤ 18 ∧ (∀ j9, j9 < c → a % 2 ≠ j9 % 2 → NoD p q a j9) ∧ Heads [(0, (pV p k)), (1, (pV q k2)), (2, (.pointer (aD bx1))), (3, (.pointer (aD bx2))), (4, (.pointer (aD bx3))), (5, .bool false), (8, (.pointer (aD bx6))), (9, vI (checkP q : Int)), (10, (.pointer (aD zT))), (11, (.pointer (aD zM))), (12, (.pointer (aD bx7))), (13, (.pointer (aD jb))), (42, vI ((a : Nat) : Int))] ρ) (fun c => 18 - c) (1 - a % 2) ?_ ?_
  ·exact ⟨bx8, kz, rfl, by omega, by omega, (fun j9 h9 e9 => absurd e9 (by omega)), (.of rfl)⟩
  rintro c ρ O ⟨jb, kz, rfl, hpar, hc18, hnj, hH⟩
  obtain ⟨ρ0, rfl⟩ := hH.elim
  clear hH
  refine T.s (T.s (T.rg (TO.q (q_lb 0 underlying3 rfl rfl rfl rfl) (TO.q (q_leq rfl rfl) (TO.nl (T.condP rfl (fun hc => ?_) (fun hc => ?_)))))))
  ·have hlt49 : c ≤ 16 := by omega
   refine T.skip (T.s (T.block (T.s (T.s (T.rg (TO.q (q_fa underlying25 rfl inf23 rfl rfl) (TO.q (q_lb 10 underlying23 rfl rfl rfl rfl) (TO.q (q_lb 1 underlying3 rfl rfl rfl rfl) ?_))))))))
   by_cases h55 : ((a : Nat) : Int) ∈ p.prio
   ·have hk55 := fun (w1 : World) (hI : Inv w [oI jb 3 [vI ((c : Nat) : Int)], oI bx7 3 [(vI ((a : Nat) : Int))], oI zT 25 (pC (pairP p q) k9), oI zM 3 [(vI (q.next.length : Int))], pI 23 3 (pairP p q) k9, oI bx6 25 (pC q k2), oI bx5 25 (pC p k), rowI (aD bx4) 2 25 4 [(vI p.vars), (vI p.start), (.slice k.nb p.next.length k.nc), (.slice k.fb p.prio.length k.fc), (vI q.vars), (vI q.start), (.slice k2.nb q.next.length k2.nc), (.slice k2.fb q.prio.length k2.fc)], oI bx3 28 (lC nilLa kz), oI bx2 25 (pC q k2), oI bx1 25 (pC p k)] w1) => (haveI := Inv.tab (P := Tryd.prog) hI; containsP w1 p k (hI.atQ h) hv a)
    refine TO.l rfl (l_call ent61 (CallT.op hk55) rfl ?_)
    clear hk55
    rintro vr O' ⟨N, rfl, rfl, rfl⟩
    rw [decide_eq_true h55]
    refine TO.q (q_not rfl) (TO.qm rfl (TO.gq rfl rfl (q_fa underlying25 rfl inf23 rfl rfl) (TO.gq rfl rfl (q_lb 9 underlying23 rfl rfl rfl rfl) (TO.gq rfl rfl (q_lb 0 underlying3 rfl rfl rfl rfl) ?_))))
    by_cases h61 : ((c : Nat) : Int) ∈ q.prio
    ·have hk61 := fun (w1 : World) (hI : Inv w [oI jb 3 [vI ((c : Nat) : Int)], oI bx7 3 [(vI ((a : Nat) : Int))], oI zT 25 (pC (pairP p q) k9), oI zM 3 [(vI (q.next.length : Int))], pI 23 3 (pairP p q) k9, oI bx6 25 (pC q k2), oI bx5 25 (pC p k), rowI (aD bx4) 2 25 4 [(vI p.vars), (vI p.start), (.slice k.nb p.next.length k.nc), (.slice k.fb p.prio.length k.fc), (vI q.vars), (vI q.start), (.slice k2.nb q.next.length k2.nc), (.slice k2.fb q.prio.length k2.fc)], oI bx3 28 (lC nilLa kz), oI bx2 25 (pC q k2), oI bx1 25 (pC p k)] w1) => (haveI := Inv.tab (P := Tryd.prog) hI; containsP w1 q k2 (hI.atQ h2) hq c)
     refine TO.gd rfl rfl rfl (l_call ent61 (CallT.op hk61) rfl ?_)
     clear hk61
     rintro vr O' ⟨N, rfl, rfl, rfl⟩
     rw [decide_eq_true h61]
     refine TO.gq rfl rfl (q_not rfl) (TO.q (q_pick0 rfl rfl) (TO.nl (T.cond0 rfl (T.skip (T.s (T.rg (TO.q (q_makeFunc) (TO.qa rfl (TO.nl (T.s (T.rg (TO.q (q_la 2 underlying25 rfl inf25 rfl rfl rfl) (TO.qm rfl (TO.q (q_makeFunc) (TO.q (q_makeFunc) ?_)))))))))))))))
     have hk70 := fun (w1 : World) (hI : Inv w [oI jb 3 [vI ((c : Nat) : Int)], oI bx7 3 [(vI ((a : Nat) : Int))], oI zT 25 (pC (pairP p q) k9), oI zM 3 [(vI (q.next.length : Int))], pI 23 3 (pairP p q) k9, oI bx6 25 (pC q k2), oI bx5 25 (pC p k), rowI (aD bx4) 2 25 4 [(vI p.vars), (vI p.start), (.slice k.nb p.next.length k.nc), (.slice k.fb p.prio.length k.fc), (vI q.vars), (vI q.start), (.slice k2.nb q.next.length k2.nc), (.slice k2.fb q.prio.length k2.fc)], oI bx3 28 (lC nilLa kz), oI bx2 25 (pC q k2), oI bx1 25 (pC p k)] w1) => (haveI := Inv.tab (P := Tryd.prog) hI; findC w1 (pairP p q) k9 (hI.atP (II := 23) (I := 3) (mG 4 rfl)) hGv (by omega) hGw [] (alD p q a c) (fun v : Nat => decide (f1 p q v = a)) (fun v : Nat => decide (f2 q v = c)) (.func (.func 62) #[] #[(.pointer (aD bx1)), (.pointer (aD zM)), (.pointer (aD bx7)), (.pointer (aD bx2)), (.pointer (aD jb))]) (.func (.func 64) #[] #[(.pointer (aD bx1)), (.pointer (aD zM)), (.pointer (aD bx7))]) (.func (.func 65) #[] #[(.pointer (aD bx2)), (.pointer (aD zM)), (.pointer (aD jb))]) rfl (fun u hu => CallV.rebase (B := [oI bx1 25 (pC p k), oI zM 3 [(vI (q.next.length : Int))], oI bx7 3 [(vI ((a : Nat) : Int))], oI bx2 25 (pC q k2), oI jb 3 [vI ((c : Nat) : Int)]]) (hI.subp (by exact Sub.pull [oI jb 3 [vI ((c : Nat) : Int)], oI bx7 3 [(vI ((a : Nat) : Int))], oI zT 25 (pC (pairP p q) k9), oI zM 3 [(vI (q.next.length : Int))], pI 23 3 (pairP p q) k9, oI bx6 25 (pC q k2), oI bx5 25 (pC p k), rowI (aD bx4) 2 25 4 [(vI p.vars), (vI p.start), (.slice k.nb p.next.length k.nc), (.slice k.fb p.prio.length k.fc), (vI q.vars), (vI q.start), (.slice k2.nb q.next.length k2.nc), (.slice k2.fb q.prio.length k2.fc)], oI bx3 28 (lC nilLa kz), oI bx2 25 (pC q k2)] _ (.pull [oI jb 3 [vI ((c : Nat) : Int)], oI bx7 3 [(vI ((a : Nat) : Int))], oI zT 25 (pC (pairP p q) k9)] _ (.pull [oI jb 3 [vI ((c : Nat) : Int)]] _ (.pull [oI jb 3 [vI ((c : Nat) : Int)], oI zT 25 (pC (pairP p q) k9), pI 23 3 (pairP p q) k9, oI bx6 25 (pC q k2), oI bx5 25 (pC p k), rowI (aD bx4) 2 25 4 [(vI p.vars), (vI p.start), (.slice k.nb p.next.length k.nc), (.slice k.fb p.prio.length k.fc), (vI q.vars), (vI q.start), (.slice k2.nb q.next.length k2.nc), (.slice k2.fb q.prio.length k2.fc)], oI bx3 28 (lC nilLa kz)] _ (.k .z)))))) (Exact.obj (Exact.obj (Exact.obj (Exact.obj (Exact.obj Exact.nil))))) (CallV.of_fn (first := []) (args := [vI ((u : Nat) : Int)]) (caps := [(.pointer (aD bx1)), (.pointer (aD zM)), (.pointer (aD bx7)), (.pointer (aD bx2)), (.pointer (aD jb))]) ent62 (bothF w p k h hv q k2 h2 hq bx1 zM bx7 bx2 jb a c u (by have h9 : u < (pairP p q).next.length := hu; rw [hpn] at h9; omega) (by have h9 : u < (pairP p q).next.length := hu; rw [hpn] at h9; exact h9)))) (fun u hu => CallV.rebase (B := [oI bx1 25 (pC p k), oI zM 3 [(vI (q.next.length : Int))], oI bx7 3 [(vI ((a : Nat) : Int))]]) (hI.subp (by exact Sub.d (.pull [oI bx7 3 [(vI ((a : Nat) : Int))], oI zT 25 (pC (pairP p q) k9), oI zM 3 [(vI (q.next.length : Int))], pI 23 3 (pairP p q) k9, oI bx6 25 (pC q k2), oI bx5 25 (pC p k), rowI (aD bx4) 2 25 4 [(vI p.vars), (vI p.start), (.slice k.nb p.next.length k.nc), (.slice k.fb p.prio.length k.fc), (vI q.vars), (vI q.start), (.slice k2.nb q.next.length k2.nc), (.slice k2.fb q.prio.length k2.fc)], oI bx3 28 (lC nilLa kz), oI bx2 25 (pC q k2)] _ (.pull [oI bx7 3 [(vI ((a : Nat) : Int))], oI zT 25 (pC (pairP p q) k9)] _ (.k .z))))) (Exact.obj (Exact.obj (Exact.obj Exact.nil))) (CallV.of_fn (first := []) (args := [vI ((u : Nat) : Int)]) (caps := [(.pointer (aD bx1)), (.pointer (aD zM)), (.pointer (aD bx7))]) ent64 (oneF w p k h hv q hq bx1 zM bx7 a u (by have h9 : u < (pairP p q).next.length := hu; rw [hpn] at h9; omega) (by have h9 : u < (pairP p q).next.length := hu; rw [hpn] at h9; exact h9)))) (fun u hu => CallV.rebase (B := [oI bx2 25 (pC q k2), oI zM 3 [(vI (q.next.length : Int))], oI jb 3 [vI ((c : Nat) : Int)]]) (hI.subp (by exact Sub.pull [oI jb 3 [vI ((c : Nat) : Int)], oI bx7 3 [(vI ((a : Nat) : Int))], oI zT 25 (pC (pairP p q) k9), oI zM 3 [(vI (q.next.length : Int))], pI 23 3 (pairP p q) k9, oI bx6 25 (pC q k2), oI bx5 25 (pC p k), rowI (aD bx4) 2 25 4 [(vI p.vars), (vI p.start), (.slice k.nb p.next.length k.nc), (.slice k.fb p.prio.length k.fc), (vI q.vars), (vI q.start), (.slice k2.nb q.next.length k2.nc), (.slice k2.fb q.prio.length k2.fc)], oI bx3 28 (lC nilLa kz)] _ (.pull [oI jb 3 [vI ((c : Nat) : Int)], oI bx7 3 [(vI ((a : Nat) : Int))], oI zT 25 (pC (pairP p q) k9)] _ (.k .z)))) (Exact.obj (Exact.obj (Exact.obj Exact.nil))) (CallV.of_fn (first := []) (args := [vI ((u : Nat) : Int)]) (caps := [(.pointer (aD bx2)), (.pointer (aD zM)), (.pointer (aD jb))]) ent65 (twoF w p hv q k2 h2 hq bx2 zM jb c u (by have h9 : u < (pairP p q).next.length := hu; rw [hpn] at h9; omega) (by have h9 : u < (pairP p q).next.length := hu; rw [hpn] at h9; exact h9)))))
     refine TO.l rfl (l_call ent63 (CallT.op hk70) rfl ?_)
     clear hk70
     rintro vr O' ⟨N, rfl, b9, l9, kl9, rfl, rfl, hf9⟩
     refine TO.qm rfl (TO.q (q_extract (vs := _) rfl rfl) (TO.q (q_extract (vs := _) rfl rfl) (TO.l rfl (l_sb (v := (lV l9 kl9)) (vs := (lC l9 kl9)) 9 inf28 rfl rfl rfl rfl rfl rfl (by simp [putL]) ?_))))
     refine TO.qa rfl (TO.nl (T.s (T.rg (TO.qm rfl (TO.nl (T.condP (p := b9 = true) (congrArg Value.bool (by cases b9 <;> rfl)) (fun hc => ?_) (fun hc => ?_)))))))
     ·have hfs := hf9.yes hc
      refine T.s (T.rg (TO.q (q_la 9 underlying28 rfl inf28 rfl rfl rfl) (TO.l rfl (l_sb (v := (lV l9 kl9)) (vs := (lC l9 kl9)) 9 inf28 rfl rfl rfl rfl rfl rfl (by simp [putL]) ?_))))
      refine TO.qa rfl (TO.qa rfl (TO.nl (T.ret (Res.drop ?_))))
      refine Res.cell1c (i := 9) (.bool true) (vI 0) Tryd.results29 underlying28 rfl inf28 rfl rfl rfl rfl rfl ?_
      exact ⟨[lI 5 l9 kl9], (by exact Sub.k .z), l9, kl9, true, 0, rfl, rfl, .inr (.inl ⟨hd0, rfl, rfl, a, c, hpar, by omega, by omega, hfs⟩)⟩
     have hb9 : b9 = false := Bool.eq_false_iff.2 hc
     have hnf := hf9.no hc
     refine T.skip (T.s (T.s (T.rg (TO.q (q_lb 1 underlying3 rfl rfl rfl rfl) (TO.nl (T.rg (TO.l rfl (l_alloc inf3 rfl (fun bx9 => ?_)))))))))
     refine TO.l rfl (l_sb (v := vI ((c : Nat) : Int)) (vs := [(vI ((c : Nat) : Int))]) 0 inf3 rfl rfl rfl rfl rfl rfl (by simp [putL]) ?_)
     refine TO.nl (T.rg (TO.q (q_lb 0 underlying3 rfl rfl rfl rfl) (TO.q (q_addN (a := c) (b := 2) rfl rfl (by omega)) (TO.l rfl (l_sb (v := vI ((c + 2 : Nat) : Int)) (vs := [(vI ((c + 2 : Nat) : Int))]) 0 inf3 rfl rfl rfl rfl rfl rfl (by simp [putL]) ?_)))))
     refine TO.nl ?_
     exact ⟨c + 2, by omega, [oI bx9 3 [(vI ((c + 2 : Nat) : Int))], oI bx7 3 [(vI ((a : Nat) : Int))], oI zT 25 (pC (pairP p q) k9), oI zM 3 [(vI (q.next.length : Int))], pI 23 3 (pairP p q) k9, oI bx6 25 (pC q k2), oI bx5 25 (pC p k), rowI (aD bx4) 2 25 4 [(vI p.vars), (vI p.start), (.slice k.nb p.next.length k.nc), (.slice k.fb p.prio.length k.fc), (vI q.vars), (vI q.start), (.slice k2.nb q.next.length k2.nc), (.slice k2.fb q.prio.length k2.fc)], oI bx3 28 (lC l9 kl9), oI bx2 25 (pC q k2), oI bx1 25 (pC p k)], (by exact Sub.k (.d (.d (.k (.k (.k (.k (.k (.k (.k (.k (.k (.k .z))))))))))))), bx9, kl9, by rw [hnf.1], by omega, by omega, (fun j9 h9 e9 => if hlt : j9 < c then hnj j9 hlt e9 else by obtain rfl : j9 = c := (by omega); exact (fun m1 m2 => by first | exact absurd m1 h55 | exact absurd m2 h61 | exact hnf.2)), ⟨rfl, rfl, rfl, rfl, rfl, (congrArg Value.bool hb9), rfl, rfl, rfl, rfl, rfl, rfl, rfl, trivial⟩⟩
    have hk61 := fun (w1 : World) (hI : Inv w [oI jb 3 [vI ((c : Nat) : Int)], oI bx7 3 [(vI ((a : Nat) : Int))], oI zT 25 (pC (pairP p q) k9), oI zM 3 [(vI (q.next.length : Int))], pI 23 3 (pairP p q) k9, oI bx6 25 (pC q k2), oI bx5 25 (pC p k), rowI (aD bx4) 2 25 4 [(vI p.vars), (vI p.start), (.slice k.nb p.next.length k.nc), (.slice k.fb p.prio.length k.fc), (vI q.vars), (vI q.start), (.slice k2.nb q.next.length k2.nc), (.slice k2.fb q.prio.length k2.fc)], oI bx3 28 (lC nilLa kz), oI bx2 25 (pC q k2), oI bx1 25 (pC p k)] w1) => (haveI := Inv.tab (P := Tryd.prog) hI; containsP w1 q k2 (hI.atQ h2) hq c)
    refine TO.gd rfl rfl rfl (l_call ent61 (CallT.op hk61) rfl ?_)
    clear hk61
    rintro vr O' ⟨N, rfl, rfl, rfl⟩
    rw [decide_eq_false h61]
    refine TO.gq rfl rfl (q_not rfl) (TO.q (q_pick0 rfl rfl) (TO.nl ?_))
    refine T.cond1 rfl ?_
    refine T.exit ?_
    refine T.s (T.s (T.rg (TO.q (q_lb 0 underlying3 rfl rfl rfl rfl) (TO.nl (T.rg (TO.l rfl (l_alloc inf3 rfl (fun bx10 => ?_))))))))
    refine TO.l rfl (l_sb (v := vI ((c : Nat) : Int)) (vs := [(vI ((c : Nat) : Int))]) 0 inf3 rfl rfl rfl rfl rfl rfl (by simp [putL]) ?_)
    refine TO.nl (T.rg (TO.q (q_lb 0 underlying3 rfl rfl rfl rfl) (TO.q (q_addN (a := c) (b := 2) rfl rfl (by omega)) (TO.l rfl (l_sb (v := vI ((c + 2 : Nat) : Int)) (vs := [(vI ((c + 2 : Nat) : Int))]) 0 inf3 rfl rfl rfl rfl rfl rfl (by simp [putL]) ?_)))))
    refine TO.nl ?_
    exact ⟨c + 2, by omega, [oI bx10 3 [(vI ((c + 2 : Nat) : Int))], oI bx7 3 [(vI ((a : Nat) : Int))], oI zT 25 (pC (pairP p q) k9), oI zM 3 [(vI (q.next.length : Int))], pI 23 3 (pairP p q) k9, oI bx6 25 (pC q k2), oI bx5 25 (pC p k), rowI (aD bx4) 2 25 4 [(vI p.vars), (vI p.start), (.slice k.nb p.next.length k.nc), (.slice k.fb p.prio.length k.fc), (vI q.vars), (vI q.start), (.slice k2.nb q.next.length k2.nc), (.slice k2.fb q.prio.length k2.fc)], oI bx3 28 (lC nilLa kz), oI bx2 25 (pC q k2), oI bx1 25 (pC p k)], (by exact Sub.k (.d (.k (.k (.k (.k (.k (.k (.k (.k (.k (.k .z)))))))))))), bx10, kz, rfl, by omega, by omega, (fun j9 h9 e9 => if hlt : j9 < c then hnj j9 hlt e9 else by obtain rfl : j9 = c := (by omega); exact (fun m1 m2 => by first | exact absurd m1 h55 | exact absurd m2 h61 | exact hnf.2)), (.of rfl)⟩
   have hk55 := fun (w1 : World) (hI : Inv w [oI jb 3 [vI ((c : Nat) : Int)], oI bx7 3 [(vI ((a : Nat) : Int))], oI zT 25 (pC (pairP p q) k9), oI zM 3 [(vI (q.next.length : Int))], pI 23 3 (pairP p q) k9, oI bx6 25 (pC q k2), oI bx5 25 (pC p k), rowI (aD bx4) 2 25 4 [(vI p.vars), (vI p.start), (.slice k.nb p.next.length k.nc), (.slice k.fb p.prio.length k.fc), (vI q.vars), (vI q.start), (.slice k2.nb q.next.length k2.nc), (.slice k2.fb q.prio.length k2.fc)], oI bx3 28 (lC nilLa kz), oI bx2 25 (pC q k2), oI bx1 25 (pC p k)] w1) => (haveI := Inv.tab (P := Tryd.prog) hI; containsP w1 p k (hI.atQ h) hv a)
   refine TO.l rfl (l_call ent61 (CallT.op hk55) rfl ?_)
   clear hk55
   rintro vr O' ⟨N, rfl, rfl, rfl⟩
   rw [decide_eq_false h55]
   refine TO.q (q_not rfl) (TO.qm rfl (TO.pd rfl rfl (TO.pd rfl rfl (TO.pd rfl rfl (TO.pd rfl rfl (TO.pd rfl rfl (TO.q (q_pick1 rfl rfl) (TO.nl ?_))))))))
   refine T.cond1 rfl ?_
   refine T.exit ?_
   refine T.s (T.s (T.rg (TO.q (q_lb 0 underlying3 rfl rfl rfl rfl) (TO.nl (T.rg (TO.l rfl (l_alloc inf3 rfl (fun bx11 => ?_))))))))
   refine TO.l rfl (l_sb (v := vI ((c : Nat) : Int)) (vs := [(vI ((c : Nat) : Int))]) 0 inf3 rfl rfl rfl rfl rfl rfl (by simp [putL]) ?_)
   refine TO.nl (T.rg (TO.q (q_lb 0 underlying3 rfl rfl rfl rfl) (TO.q (q_addN (a := c) (b := 2) rfl rfl (by omega)) (TO.l rfl (l_sb (v := vI ((c + 2 : Nat) : Int)) (vs := [(vI ((c + 2 : Nat) : Int))]) 0 inf3 rfl rfl rfl rfl rfl rfl (by simp [putL]) ?_)))))
   refine TO.nl ?_
   exact ⟨c + 2, by omega, [oI bx11 3 [(vI ((c + 2 : Nat) : Int))], oI bx7 3 [(vI ((a : Nat) : Int))], oI zT 25 (pC (pairP p q) k9), oI zM 3 [(vI (q.next.length : Int))], pI 23 3 (pairP p q) k9, oI bx6 25 (pC q k2), oI bx5 25 (pC p k), rowI (aD bx4) 2 25 4 [(vI p.vars), (vI p.start), (.slice k.nb p.next.length k.nc), (.slice k.fb p.prio.length k.fc), (vI q.vars), (vI q.start), (.slice k2.nb q.next.length k2.nc), (.slice k2.fb q.prio.length k2.fc)], oI bx3 28 (lC nilLa kz), oI bx2 25 (pC q k2), oI bx1 25 (pC p k)], (by exact Sub.k (.d (.k (.k (.k (.k (.k (.k (.k (.k (.k (.k .z)))))))))))), bx11, kz, rfl, by omega, by omega, (fun j9 h9 e9 => if hlt : j9 < c then hnj j9 hlt e9 else by obtain rfl : j9 = c := (by omega); exact (fun m1 m2 => by first | exact absurd m1 h55 | exact absurd m2 h61 | exact hnf.2)), (.of rfl)⟩
  have hge49 : ¬ c ≤ 16 := by omega
  refine T.exit ?_
  refine T.rg (TO.q (q_addN (a := a) (b := 1) rfl rfl (by omega)) (TO.qm rfl (TO.nl ?_)))
  exact ⟨a + 1, by omega, [oI zT 25 (pC (pairP p q) k9), oI zM 3 [(vI (q.next.length : Int))], pI 23 3 (pairP p q) k9, oI bx6 25 (pC q k2), oI bx5 25 (pC p k), rowI (aD bx4) 2 25 4 [(vI p.vars), (vI p.start), (.slice k.nb p.next.length k.nc), (.slice k.fb p.prio.length k.fc), (vI q.vars), (vI q.start), (.slice k2.nb q.next.length k2.nc), (.slice k2.fb q.prio.length k2.fc)], oI bx3 28 (lC nilLa kz), oI bx2 25 (pC q k2), oI bx1 25 (pC p k)], (by exact Sub.d (.d (.k (.k (.k (.k (.k (.k (.k (.k (.k .z))))))))))), kz, rfl, by omega, (fun i9 h9 j9 h8 e9 => if hlt : i9 < a then hnd i9 hlt j9 h8 e9 else by obtain rfl : i9 = a := (by omega); exact hnj j9 (by omega) e9), (.of rfl)⟩
 have hge43 : ¬ a < 17 := by omega
 refine T.exit ?_
 refine T.s ?_
 refine T.nilL 5 ?_
 refine T.rg (TO.q (q_build plan28 inf28 rfl) (TO.l rfl (l_sb (v := (.agg #[nS, nS])) (vs := [nS, nS]) 7 inf28 rfl rfl rfl rfl rfl rfl (by simp [putL]) ?_)))
 refine TO.qa rfl (TO.qa rfl (TO.nl (T.ret (Res.drop ?_))))
 refine Res.cell1c (i := 7) (.bool false) (vI 0) Tryd.results29 underlying28 rfl inf28 rfl rfl rfl rfl rfl ?_
 exact ⟨[lI 5 nilLa l00], (by exact Sub.k .z), nilLa, l00, false, 0, rfl, rfl, .inr (.inr ⟨hd0, rfl, rfl, rfl, noD_all (fun i9 h9 => hnd i9 (by omega))⟩)⟩
end Go.Proofs.YtnikhiohindggaaDoor


namespace Go.Lx
def Pp (E : Nat → Nat → Prop) (a b : Nat) : Prop := ∃ c, E a c ∧ Rch E c b
theorem Pp.one {E : Nat → Nat → Prop} {a b : Nat} (h : E a b) : Pp E a b := ⟨b, h, .refl _⟩
theorem Pp.rch {E : Nat → Nat → Prop} {a b : Nat} (h : Pp E a b) : Rch E a b := by obtain ⟨c, h1, h2⟩ := h; exact .step h1 h2
theorem Pp.trans {E : Nat → Nat → Prop} {a b c : Nat} (h : Pp E a b) (g : Pp E b c) : Pp E a c := by
 obtain ⟨d, h1, h2⟩ := h
 exact ⟨d, h1, h2.trans g.rch⟩
def wN (E : Nat → Nat → Prop) : Nat → Nat → Nat → Prop
 | 0, a, b => E a b
 | k + 1, a, b => wN E k a b ∨ (wN E k a k ∧ wN E k k b)
theorem wN_pp {E : Nat → Nat → Prop} : ∀ {k a b : Nat}, wN E k a b → Pp E a b
 | 0, _, _, h => .one h
 | k + 1, _, _, h => h.elim (fun h => wN_pp h) fun h => (wN_pp h.1).trans (wN_pp h.2)
theorem wN_join {E : Nat → Nat → Prop} : ∀ {k a b c : Nat}, b < k → wN E k a b → wN E k b c → wN E k a c
 | 0, _, _, _, h, _, _ => absurd h (Nat.not_lt_zero _)
 | k + 1, a, b, c, hb, h1, h2 => by
  by_cases e : b = k
  ·subst e
   have g1 : wN E b a b := h1.elim id fun h => h.1
   have g2 : wN E b b c := h2.elim id fun h => h.2
   exact .inr ⟨g1, g2⟩
  ·have hb2 : b < k := by omega
   rcases h1 with h1 | ⟨h1, h3⟩
   ·rcases h2 with h2 | ⟨h2, h4⟩
    ·exact .inl (wN_join hb2 h1 h2)
    ·exact .inr ⟨wN_join hb2 h1 h2, h4⟩
   ·rcases h2 with h2 | ⟨h2, h4⟩
    ·exact .inr ⟨h1, wN_join hb2 h3 h2⟩
    ·exact .inr ⟨h1, h4⟩
theorem wN_zero {E : Nat → Nat → Prop} {a b : Nat} (h : E a b) : ∀ k, wN E k a b
 | 0 => h
 | k + 1 => .inl (wN_zero h k)
theorem pp_wN {E : Nat → Nat → Prop} {n : Nat} (hE : ∀ u v, E u v → v < n) {a b : Nat} (h : Pp E a b) : wN E n a b := by
 obtain ⟨c, h1, h2⟩ := h
 induction h2 generalizing a with
 | refl => exact wN_zero h1 n
 | step e _ ih => exact wN_join (hE _ _ h1) (wN_zero h1 n) (ih e)
structure WarI (E : Nat → Nat → Prop) (n k i j : Nat) (g : Nat → Nat → Bool) : Prop where
 sound : ∀ a b, g a b = true → Pp E a b
 old : ∀ a b, a < n → b < n → wN E k a b → g a b = true
 new : ∀ a b, a < n → b < n → (a < i ∨ a = i ∧ b < j) → wN E (k + 1) a b → g a b = true
section
variable {E : Nat → Nat → Prop} {n k i j : Nat} {g g2 : Nat → Nat → Bool}
theorem WarI.start (h : ∀ a b, g a b = true → E a b) (h2 : ∀ a b, a < n → b < n → E a b → g a b = true) : WarI E n 0 0 0 g := ⟨fun a b e => .one (h a b e), h2, fun a b _ _ h => by omega⟩
theorem WarI.step (h : WarI E n k i j g) (hk : k < n) (hi : i < n) (hj : j < n) (hg : g i k = true) (h2 : ∀ a b, g2 a b = if a = i ∧ b = j then (g i j || g k j) else g a b) : WarI E n k i (j + 1) g2 := by
 have mono : ∀ a b, g a b = true → g2 a b = true := fun a b e => by
  rw [h2 a b]; split
  ·rename_i q; rw [← q.1, ← q.2, e]; rfl
  ·exact e
 refine ⟨fun a b e => ?_, fun a b ha hb hw => mono a b (h.old a b ha hb hw), fun a b ha hb hab hw => ?_⟩
 ·rw [h2 a b] at e
  by_cases q : a = i ∧ b = j
  ·rw [if_pos q, Bool.or_eq_true] at e
   obtain ⟨rfl, rfl⟩ := q
   rcases e with e | e
   ·exact h.sound _ _ e
   ·exact (h.sound _ _ hg).trans (h.sound _ _ e)
  ·rw [if_neg q] at e; exact h.sound a b e
 ·by_cases q : a = i ∧ b = j
  ·rw [h2 a b, if_pos q, Bool.or_eq_true]
   obtain ⟨rfl, rfl⟩ := q
   rcases hw with hw | ⟨_, hw⟩
   ·exact .inl (h.old _ _ ha hb hw)
   ·exact .inr (h.old _ _ hk hb hw)
  ·exact mono a b (h.new a b ha hb (by omega) hw)
theorem WarI.row (h : WarI E n k i j g) (hk : k < n) (he : n ≤ j ∨ g i k = false) : WarI E n k (i + 1) 0 g :=
 ⟨h.sound, h.old, fun a b ha hb hab hw => by
  by_cases q : a = i
  ·rcases he with he | he
   ·exact h.new a b ha hb (.inr ⟨q, by omega⟩) hw
   ·subst q
    rcases hw with hw | ⟨hw, _⟩
    ·exact h.old _ _ ha hb hw
    ·have := h.old a k ha hk hw; rw [he] at this; cases this
  ·exact h.new a b ha hb (by omega) hw⟩
theorem WarI.next (h : WarI E n k i 0 g) (hi : n ≤ i) : WarI E n (k + 1) 0 0 g := ⟨h.sound, fun a b ha hb hw => h.new a b ha hb (.inl (by omega)) hw, fun a b _ _ q => by omega⟩
theorem WarI.done (h : WarI E n k 0 0 g) (hk : k = n) (hE : ∀ u v, E u v → v < n) {a b : Nat} (ha : a < n) (hb : b < n) : g a b = true ↔ Pp E a b := by
 subst hk
 exact ⟨h.sound a b, fun e => h.old a b ha hb (pp_wN hE e)⟩
end
theorem cyc_pp {E : Nat → Nat → Prop} {S : Nat → Prop} {v : Nat} : Cyc E S v ↔ Pp (InS E S) v v := Iff.rfl
theorem cmp_pp {E : Nat → Nat → Prop} {S : Nat → Prop} {s t : Nat} (hs : S s) (hc : Cyc E S s) : Cmp E S s t ↔ Pp (InS E S) s t ∧ Pp (InS E S) t s := by
 constructor
 ·intro h
  have hl := Cmp.loop hs hc
  obtain ⟨c, h1, h2⟩ := hl.2 s t (.refl hs) h
  obtain ⟨d, h3, h4⟩ := hl.2 t s h (.refl hs)
  have up : ∀ u, Cmp E S s u → S u := fun u hu => hu.1
  exact ⟨⟨c, h1.mono up, rch_mono up h2⟩, ⟨d, h3.mono up, rch_mono up h4⟩⟩
 ·rintro ⟨h1, h2⟩
  have h4 := h2
  obtain ⟨c, h3, _⟩ := h4
  exact ⟨h3.2.1, h1.rch, h2.rch⟩
end Go.Lx

