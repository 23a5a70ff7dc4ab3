/- Contracts of functions of the program (Z8): what each call answers and that it leaves memory as it was. Conditions: those each theorem names. -/
import Derived.Test.YtnikhiohindggaaDoorCoreK
import Derived.Test.YtnikhiohindggaaDoorYs
import Derived.Test.YtnikhiohindggaaDoorZ4
import Derived.Test.YtnikhiohindggaaDoorZ7
set_option linter.unusedSectionVars false
set_option linter.unusedSimpArgs false
set_option linter.unusedVariables false
set_option linter.unnecessarySimpa false
set_option maxHeartbeats 8000000
set_option maxRecDepth 20000
namespace Go.Proofs.YtnikhiohindggaaDoor
open Go.Lx Go.RowKit _root_.Go.Proofs.Tryd
theorem quotientW (w : World) [Tab Tryd.prog w] (p : Par) (k : DK) (h : AtP w p k) (hB : ParC p) (l : La) (kl : LK) (hl : AtL w l kl) (hp8 : ∀ x ∈ l.pre, x < 256) (hl8 : ∀ x ∈ l.loop, x < 256) (st : Nat) (hst : st < 256) :
    PureT Tryd.prog 8 [pV p k, lV l kl, .int .u8 ((st : Nat) : Int)] w fun v N => v = .bool true ∧ N = [] := by
  refine CallT.enter func8 rfl ntmps8 rfl ?_
  obtain ⟨Q, eQ⟩ : ∃ zz, quoV p = zz := ⟨_, rfl⟩
  have hQ : ParC Q := eQ ▸ quoV_c p
  have hBf := hB.f; have hBn := hB.n
  have hvl := h.rows.1
  refine T.s (T.rg ?_)
  refine TO.l rfl (l_box (v := (pV p k)) (cs := (pC p k)) rfl rfl (fun z1 => ?_))
  refine TO.l rfl (l_box (v := (lV l kl)) (cs := (lC l kl)) rfl rfl (fun z2 => ?_))
  refine TO.qa rfl ?_
  refine TO.nl (T.s (T.s (T.rg ?_)))
  refine TO.q (q_la 1 underlying25 rfl inf25 rfl rfl rfl) ?_
  refine TO.l rfl (l_buildSlice (m := 1) (parts := [(0, _)]) (cs := (pC p k)) underlying59 inf25 (by decide) (by kernel_rfl) rfl (fun z3 => ?_))
  have hk23 := fun (w1 : World) (hI : Inv w [rowI (some ⟨z3, 0, none⟩) 1 25 4 (pC p k), oI z2 28 (lC l kl), oI z1 25 (pC p k)] w1) => (haveI := tbz hI; (show PureT _ _ _ _ _ from by
      have h9 := longPF w1 (some ⟨z3, 0, none⟩) 1 [(p, k)] (hI.slOf (cs := parsC [(p, k)]) (mG 0 rfl)) (by intro q9 hq; simp only [List.mem_cons, List.not_mem_nil, or_false] at hq; rcases hq with rfl <;> first | exact hI.atQ h) (by show 1 < 1000000; decide) (by intro q9 hq; simp only [List.mem_cons, List.not_mem_nil, or_false] at hq; rcases hq with rfl <;> first | exact hB)
      rw [show ([(p, k)] : List (Par × DK)).any (fun q => Lx.longP q.1) = Lx.longP p by simp] at h9
      exact h9))
  refine TO.l rfl (l_call ent10 (CallT.op hk23) rfl ?_)
  clear hk23
  rintro vr O' ⟨N, rfl, rfl, rfl⟩
  by_cases h24 : Lx.longP p = true
  · refine TO.q (QT.toB (q_move rfl) (h24)) ?_
    refine TO.pd rfl rfl ?_
    refine TO.pd rfl rfl ?_
    refine TO.pd rfl rfl ?_
    refine TO.q (q_pick1 rfl rfl) (TO.qm rfl ?_)
    refine TO.pd rfl rfl ?_
    refine TO.pd rfl rfl ?_
    refine TO.q (q_pick1 rfl rfl) ?_
    refine TO.nl ?_
    refine T.cond1 rfl ?_
    refine T.s (T.rg ?_)
    have hk33 := fun (w1 : World) (hI : Inv w [rowI (some ⟨z3, 0, none⟩) 1 25 4 (pC p k), oI z2 28 (lC l kl), oI z1 25 (pC p k)] w1) => (haveI := tbz hI; awakeC w1)
    refine TO.l rfl (l_call ent12 (CallT.op hk33) rfl ?_)
    clear hk33
    rintro vr O' ⟨N, rfl, rfl, rfl⟩
    refine TO.qa rfl ?_
    refine TO.nl (T.ret (Res.drop ?_))
    refine Res.one (.bool true) Tryd.results8 rfl ?_
    exact ⟨[], Sub.of (List.nil_sublist _), rfl, rfl⟩
  refine TO.q (QT.toB (q_move rfl) (Bool.eq_false_iff.2 h24)) ?_
  refine TO.gd rfl rfl rfl (LT.oq rfl rfl (q_la 1 underlying28 rfl inf28 rfl rfl rfl) ?_)
  refine TO.gd rfl rfl rfl (l_buildSlice (m := 1) (parts := [(0, _)]) (cs := (lC l kl)) underlying60 inf28 (by decide) (by kernel_rfl) rfl (fun z4 => ?_))
  have hk27 := fun (w1 : World) (hI : Inv w [rowI (some ⟨z4, 0, none⟩) 1 28 2 (lC l kl), rowI (some ⟨z3, 0, none⟩) 1 25 4 (pC p k), oI z2 28 (lC l kl), oI z1 25 (pC p k)] w1) => (haveI := tbz hI; (show PureT _ _ _ _ _ from by
      have h9 := longLF w1 (some ⟨z4, 0, none⟩) 1 [⟨l, kl.pb, kl.pc, kl.lb, kl.lc⟩] (hI.slOf (cs := lasC [⟨l, kl.pb, kl.pc, kl.lb, kl.lc⟩]) (mG 0 rfl)) (by show 1 < 9223372036854775807; decide)
      rw [show ([⟨l, kl.pb, kl.pc, kl.lb, kl.lc⟩] : List LaRef).any (fun q => Lx.longL q.l) = Lx.longL l by simp] at h9
      exact h9))
  refine TO.gd rfl rfl rfl (l_call ent11 (CallT.op hk27) rfl ?_)
  clear hk27
  rintro vr O' ⟨N, rfl, rfl, rfl⟩
  refine TO.q (q_pick0 rfl rfl) ?_
  by_cases h29 : Lx.longL l = true
  · refine TO.q (QT.toB (q_move rfl) (h29)) ?_
    refine TO.pd rfl rfl ?_
    refine TO.pd rfl rfl ?_
    refine TO.q (q_pick1 rfl rfl) ?_
    refine TO.nl ?_
    refine T.cond1 rfl ?_
    refine T.s (T.rg ?_)
    have hk33 := fun (w1 : World) (hI : Inv w [rowI (some ⟨z4, 0, none⟩) 1 28 2 (lC l kl), rowI (some ⟨z3, 0, none⟩) 1 25 4 (pC p k), oI z2 28 (lC l kl), oI z1 25 (pC p k)] w1) => (haveI := tbz hI; awakeC w1)
    refine TO.l rfl (l_call ent12 (CallT.op hk33) rfl ?_)
    clear hk33
    rintro vr O' ⟨N, rfl, rfl, rfl⟩
    refine TO.qa rfl ?_
    refine TO.nl (T.ret (Res.drop ?_))
    refine Res.one (.bool true) Tryd.results8 rfl ?_
    exact ⟨[], Sub.of (List.nil_sublist _), rfl, rfl⟩
  refine TO.q (QT.toB (q_move rfl) (Bool.eq_false_iff.2 h29)) ?_
  have hk30 := fun (w1 : World) (hI : Inv w [rowI (some ⟨z4, 0, none⟩) 1 28 2 (lC l kl), rowI (some ⟨z3, 0, none⟩) 1 25 4 (pC p k), oI z2 28 (lC l kl), oI z1 25 (pC p k)] w1) => (haveI := tbz hI; awakeC w1)
  refine TO.gd rfl rfl rfl (l_call ent12 (CallT.op hk30) rfl ?_)
  clear hk30
  rintro vr O' ⟨N, rfl, rfl, rfl⟩
  refine TO.gd rfl rfl rfl (LT.oq rfl rfl (q_not rfl) ?_)
  refine TO.q (q_pick0 rfl rfl) ?_
  refine TO.nl ?_
  refine T.cond0 rfl ?_
  refine T.skip (T.s (T.rg ?_))
  refine TO.q (q_la 3 underlying25 rfl inf25 rfl rfl rfl) ?_
  have hk36 := fun (w1 : World) (hI : Inv w [rowI (some ⟨z4, 0, none⟩) 1 28 2 (lC l kl), rowI (some ⟨z3, 0, none⟩) 1 25 4 (pC p k), oI z2 28 (lC l kl), oI z1 25 (pC p k)] w1) => (haveI := tbz hI; (show PureT _ _ _ _ _ from by
      have h9 := parQuo w1 p k (hI.atQ h) hB
      rw [eQ] at h9
      exact h9))
  refine TO.l rfl (l_call ent27 (CallT.op hk36) rfl ?_)
  clear hk36
  rintro vr O' ⟨N, rfl, k5, rfl, rfl⟩
  refine TO.qm rfl (TO.q (q_extract (vs := _) rfl rfl) (TO.q (q_extract (vs := _) rfl rfl) ?_))
  refine TO.l rfl (l_alloc inf25 rfl (fun z5 => ?_))
  refine TO.l rfl (l_sb (v := (pV Q k5)) (vs := (pC Q k5)) 0 inf25 rfl rfl rfl rfl rfl rfl (by simp [putL]) ?_)
  refine TO.qa rfl ?_
  refine TO.sub (O' := [oI z5 25 (pC Q k5), pI 23 3 Q k5, oI z2 28 (lC l kl), oI z1 25 (pC p k)]) (Sub.pick [0, 0, 2, 2] rfl) ?_
  refine TO.nl (T.s (T.s (T.rg ?_)))
  refine TO.qm rfl (TO.q (q_neq rfl rfl) ?_)
  refine TO.nl ?_
  refine T.condP rfl (fun hc => ?_) (fun hc => ?_)
  · have hlt40 : checkP p ≠ 0 := by omega
    have hQno : Q = noP := by rw [← eQ]; exact quoV_no (by omega)
    refine T.s (T.rg ?_)
    refine TO.q (q_fa underlying25 rfl inf22 rfl rfl) (TO.q (q_lb 0 underlying22 rfl rfl rfl rfl) (TO.q (q_len underlying22 rfl) (TO.q (q_eql rfl rfl) ?_)))
    refine TO.qa rfl ?_
    refine TO.nl (T.ret (Res.drop ?_))
    refine Res.one (.bool (decide ((Q.next.length : Int) = 0))) Tryd.results8 rfl ?_
    exact ⟨[], Sub.of (List.nil_sublist _), congrArg Value.bool (decide_eq_true (by rw [hQno]; rfl)), rfl⟩
  have hge40 : ¬ checkP p ≠ 0 := by omega
  have hL : LaB l := longL_lab h29 hp8 hl8
  have hp0 : checkP p = 0 := by omega
  have hv := checkP_zero.1 hp0
  have hS : ParS p := longP_s (Bool.eq_false_iff.2 h24)
  obtain ⟨h12, h14, h66⟩ := longP_no (Bool.eq_false_iff.2 h24)
  have hn0 : 0 < p.next.length := by have := hv.st; omega
  obtain ⟨hQc, hQt, hQs, hQn⟩ := quoV_facts hp0
  have hru := quoV_run hp0 l
  rw [eQ] at hQc hQt hQs hQn hru
  obtain ⟨j, ej⟩ : ∃ zz, st % p.next.length = zz := ⟨_, rfl⟩
  have hj : j < p.next.length := ej ▸ Nat.mod_lt st hn0
  have hjp : j < p.prio.length := by rw [hv.pl]; exact hj
  obtain ⟨v1, c1, g1, s1⟩ := h.rows.get hj
  have hrj : p.next[j].length ≤ 66 := h66 _ (List.getElem_mem hj)
  have hcv := coP_valid hv (by omega) hj
  have hcq := coP_quo hp0 (by omega) hj
  have h6 := hv.letN6
  refine T.skip (T.s (T.rg ?_))
  refine TO.q (q_la 0 underlying25 rfl inf25 rfl rfl rfl) ?_
  have hk47 := fun (w1 : World) (hI : Inv w [oI z5 25 (pC Q k5), pI 23 3 Q k5, oI z2 28 (lC l kl), oI z1 25 (pC p k)] w1) => (haveI := tbz hI; (show PureT _ _ _ _ _ from by
      have h9 := parQuo w1 Q k5 (hI.atP (II := 23) (I := 3) (mG 1 rfl)) hQ
      rw [hQt, hQc] at h9
      exact h9))
  refine TO.l rfl (l_call ent27 (CallT.op hk47) rfl ?_)
  clear hk47
  rintro vr O' ⟨N, rfl, k6, rfl, rfl⟩
  refine TO.qm rfl (TO.q (q_extract (vs := _) rfl rfl) (TO.q (q_extract (vs := _) rfl rfl) ?_))
  refine TO.l rfl (l_alloc inf25 rfl (fun z6 => ?_))
  refine TO.l rfl (l_sb (v := (pV Q k6)) (vs := (pC Q k6)) 0 inf25 rfl rfl rfl rfl rfl rfl (by simp [putL]) ?_)
  refine TO.qa rfl ?_
  refine TO.sub (O' := [oI z6 25 (pC Q k6), pI 23 3 Q k6, oI z5 25 (pC Q k5), pI 23 3 Q k5, oI z2 28 (lC l kl), oI z1 25 (pC p k)]) (Sub.pick [0, 0, 0, 0, 0, 0] rfl) ?_
  refine TO.nl (T.s (T.rg ?_))
  refine TO.q (q_la 5 underlying25 rfl inf25 rfl rfl rfl) (TO.q (q_la 4 underlying28 rfl inf28 rfl rfl rfl) ?_)
  have hk53 := fun (w1 : World) (hI : Inv w [oI z6 25 (pC Q k6), pI 23 3 Q k6, oI z5 25 (pC Q k5), pI 23 3 Q k5, oI z2 28 (lC l kl), oI z1 25 (pC p k)] w1) => (haveI := tbz hI; parRun w1 p k (hI.atQ h) hB l kl (hI.atU hl) hL)
  refine TO.l rfl (l_call ent15 (CallT.op hk53) rfl ?_)
  clear hk53
  rintro vr O' ⟨N, rfl, rfl, rfl⟩
  refine TO.qm rfl (TO.q (q_extract (vs := _) rfl rfl) (TO.q (q_extract (vs := _) rfl rfl) (TO.qa rfl ?_)))
  refine TO.qa rfl ?_
  refine TO.sub (O' := [oI z6 25 (pC Q k6), pI 23 3 Q k6, oI z5 25 (pC Q k5), pI 23 3 Q k5, oI z2 28 (lC l kl), oI z1 25 (pC p k)]) (Sub.pick [0, 0, 0, 0, 0, 0] rfl) ?_
  refine TO.nl (T.s (T.rg ?_))
  refine TO.q (q_la 2 underlying25 rfl inf25 rfl rfl rfl) (TO.q (q_la 4 underlying28 rfl inf28 rfl rfl rfl) ?_)
  have hk59 := fun (w1 : World) (hI : Inv w [oI z6 25 (pC Q k6), pI 23 3 Q k6, oI z5 25 (pC Q k5), pI 23 3 Q k5, oI z2 28 (lC l kl), oI z1 25 (pC p k)] w1) => (haveI := tbz hI; (show PureT _ _ _ _ _ from by
      have h9 := parRun w1 Q k5 (hI.atP (II := 23) (I := 3) (mG 3 rfl)) hQ l kl (hI.atU hl) hL
      rw [hru.1, hru.2] at h9
      exact h9))
  refine TO.l rfl (l_call ent15 (CallT.op hk59) rfl ?_)
  clear hk59
  rintro vr O' ⟨N, rfl, rfl, rfl⟩
  refine TO.qm rfl (TO.q (q_extract (vs := _) rfl rfl) (TO.q (q_extract (vs := _) rfl rfl) (TO.qa rfl ?_)))
  refine TO.qa rfl ?_
  refine TO.sub (O' := [oI z6 25 (pC Q k6), pI 23 3 Q k6, oI z5 25 (pC Q k5), pI 23 3 Q k5, oI z2 28 (lC l kl), oI z1 25 (pC p k)]) (Sub.pick [0, 0, 0, 0, 0, 0] rfl) ?_
  refine TO.nl (T.s (T.s (T.rg ?_)))
  refine TO.qm rfl (TO.q (QT.toB (q_neq rfl rfl) (decide_eq_false (fun h9 => h9 rfl))) (TO.qm rfl ?_))
  refine TO.gd rfl rfl rfl (LT.oq rfl rfl (q_la 0 underlying25 rfl inf25 rfl rfl rfl) ?_)
  refine TO.gd rfl rfl rfl (LT.oq rfl rfl (q_la 2 underlying25 rfl inf25 rfl rfl rfl) ?_)
  have hk67 := fun (w1 : World) (hI : Inv w [oI z6 25 (pC Q k6), pI 23 3 Q k6, oI z5 25 (pC Q k5), pI 23 3 Q k5, oI z2 28 (lC l kl), oI z1 25 (pC p k)] w1) => (haveI := tbz hI; (show PureT _ _ _ _ _ from by
      have h9 := equalPar w1 Q k6 (hI.atP (II := 23) (I := 3) (mG 1 rfl)) Q k5 (hI.atP (II := 23) (I := 3) (mG 3 rfl)) hQ
      rw [decide_eq_true rfl] at h9
      exact h9))
  refine TO.gd rfl rfl rfl (l_call ent22 (CallT.op hk67) rfl ?_)
  clear hk67
  rintro vr O' ⟨N, rfl, rfl, rfl⟩
  refine TO.gd rfl rfl rfl (LT.oq rfl rfl (q_not rfl) ?_)
  refine TO.q (q_pick0 rfl rfl) (TO.qm rfl ?_)
  refine TO.gd rfl rfl rfl (LT.oq rfl rfl (q_fa underlying25 rfl inf3 rfl rfl) ?_)
  refine TO.gd rfl rfl rfl (LT.oq rfl rfl (q_lb 2 underlying3 rfl rfl rfl rfl) ?_)
  refine TO.gd rfl rfl rfl (LT.oq rfl rfl (QT.toB (q_neq rfl rfl) (decide_eq_false (fun h9 => h9 hQs))) ?_)
  refine TO.q (q_pick0 rfl rfl) (TO.qm rfl ?_)
  refine TO.gd rfl rfl rfl (LT.oq rfl rfl (q_fa underlying25 rfl inf22 rfl rfl) ?_)
  refine TO.gd rfl rfl rfl (LT.oq rfl rfl (q_lb 2 underlying22 rfl rfl rfl rfl) ?_)
  refine TO.gd rfl rfl rfl (LT.oq rfl rfl (q_len underlying22 rfl) ?_)
  refine TO.gd rfl rfl rfl (LT.oq rfl rfl (q_fa underlying25 rfl inf22 rfl rfl) ?_)
  refine TO.gd rfl rfl rfl (LT.oq rfl rfl (q_lb 5 underlying22 rfl rfl rfl rfl) ?_)
  refine TO.gd rfl rfl rfl (LT.oq rfl rfl (q_len underlying22 rfl) ?_)
  refine TO.gd rfl rfl rfl (LT.oq rfl rfl (QT.toB (q_gtr rfl rfl) (decide_eq_false (by omega))) ?_)
  refine TO.q (q_pick0 rfl rfl) (TO.qm rfl ?_)
  refine TO.gd rfl rfl rfl (LT.oq rfl rfl (q_move rfl) ?_)
  refine TO.gd rfl rfl rfl (LT.oq rfl rfl (q_move rfl) ?_)
  refine TO.gd rfl rfl rfl (LT.oq rfl rfl (QT.toB (q_neq rfl rfl) (decide_eq_false (fun h9 => h9 rfl))) ?_)
  refine TO.q (q_pick0 rfl rfl) (TO.qm rfl ?_)
  refine TO.gd rfl rfl rfl (LT.oq rfl rfl (q_move rfl) ?_)
  refine TO.gd rfl rfl rfl (LT.oq rfl rfl (q_move rfl) ?_)
  refine TO.gd rfl rfl rfl (LT.oq rfl rfl (QT.toB (q_neq rfl rfl) (decide_eq_false (fun h9 => h9 rfl))) ?_)
  refine TO.q (q_pick0 rfl rfl) (TO.qm rfl ?_)
  refine TO.gd rfl rfl rfl (LT.oq rfl rfl (q_fa underlying25 rfl inf22 rfl rfl) ?_)
  refine TO.gd rfl rfl rfl (LT.oq rfl rfl (q_lb 5 underlying22 rfl rfl rfl rfl) ?_)
  refine TO.gd rfl rfl rfl (LT.oq rfl rfl (q_len underlying22 rfl) ?_)
  refine TO.gd rfl rfl rfl (LT.oq rfl rfl (QT.toB (q_eql rfl rfl) (decide_eq_false (by omega))) ?_)
  refine TO.q (q_pick0 rfl rfl) ?_
  refine TO.nl ?_
  refine T.cond0 rfl ?_
  refine T.skip (T.s (T.rg ?_))
  refine TO.qm rfl (TO.q (q_conv_id underlying5 underlying3 rfl (by first | rfl | exact wrap64_id ⟨by omega, by omega⟩ | exact wrap8 (by omega) | exact wrapU64 (by omega))) (TO.q (q_fa underlying25 rfl inf22 rfl rfl) (TO.q (q_lb 5 underlying22 rfl rfl rfl rfl) ?_)))
  refine TO.q (q_len underlying22 rfl) (TO.q (QT.cast (q_remN (a := st) (b := p.next.length) rfl rfl (by omega)) (v' := .int .i64 ((j : Nat) : Int)) (congrArg (fun n9 : Nat => Value.int .i64 ((n9 : Nat) : Int)) ej)) (TO.qa rfl ?_))
  refine TO.sub (O' := [oI z5 25 (pC Q k5), pI 23 3 Q k5, oI z2 28 (lC l kl), oI z1 25 (pC p k)]) (Sub.pick [2, 2, 2, 2] rfl) ?_
  refine TO.nl (T.s (T.rg ?_))
  refine TO.q (q_la 3 underlying25 rfl inf25 rfl rfl rfl) ?_
  have hk107 := fun (w1 : World) (hI : Inv w [oI z5 25 (pC Q k5), pI 23 3 Q k5, oI z2 28 (lC l kl), oI z1 25 (pC p k)] w1) => (haveI := tbz hI; copyPar0 w1 p k (hI.atQ h) hS)
  refine TO.l rfl (l_call ent13 (CallT.op hk107) rfl ?_)
  clear hk107
  rintro vr O' ⟨N, rfl, nb2, nc2, fb2, fc2, qs, rfl, rfl, hqs⟩
  have hql : qs.length = p.next.length := by have h9 := congrArg List.length hqs; simpa [nums] using h9
  refine TO.sub (O' := ([rowI nb2 nc2 23 1 (vals qs), rowI fb2 fc2 3 1 (ints p.prio), oI z5 25 (pC Q k5), pI 23 3 Q k5, oI z2 28 (lC l kl), oI z1 25 (pC p k)] ++ (itms 3 qs))) (Sub.ca []) ?_
  refine TO.l rfl (l_alloc inf25 rfl (fun z7 => ?_))
  refine TO.l rfl (l_sb (v := (.agg #[(.int .i64 p.vars), (.int .i64 p.start), (.slice nb2 p.next.length nc2), (.slice fb2 p.prio.length fc2)])) (vs := [(.int .i64 p.vars), (.int .i64 p.start), (.slice nb2 p.next.length nc2), (.slice fb2 p.prio.length fc2)]) 0 inf25 rfl rfl rfl rfl rfl rfl (by simp [putL]) ?_)
  refine TO.nl (T.s ?_)
  refine T.draws _ [(0, 0), (1, 0), (2, 0), (3, 0), (4, 0), (5, 0), (6, 0), (7, 1), (8, 1), (9, 2), (10, 2), (11, 2)] mixed (drawF_ok (by kernel_rfl)) (Sub.of (List.Sublist.refl _)) (fun _ _ _ h => h) ?_
  refine DO.q rfl (q_fa underlying25 rfl inf22 rfl rfl) (DO.q rfl (q_lb 0 underlying22 rfl rfl rfl rfl) (DO.q rfl (q_fa underlying25 rfl inf22 rfl rfl) (DO.q rfl (q_lb 6 underlying22 rfl rfl rfl rfl) ?_)))
  refine DO.q rfl (q_move rfl) (DO.q rfl (q_ix (i := j) underlying22 inf23 rfl rfl (Sl.o h.outer) hj (hvl ▸ hj)) (DO.q rfl (q_ld underlying23 rfl rfl (Sl.o h.outer) g1) ?_))
  have hk115 := fun (w1 : World) (hI : Inv w ([oI z7 25 [(.int .i64 p.vars), (.int .i64 p.start), (.slice nb2 p.next.length nc2), (.slice fb2 p.prio.length fc2)], rowI nb2 nc2 23 1 (vals qs), rowI fb2 fc2 3 1 (ints p.prio), oI z5 25 (pC Q k5), pI 23 3 Q k5, oI z2 28 (lC l kl), oI z1 25 (pC p k)] ++ (itms 3 qs)) w1) => (haveI := tbz hI; copyInts w1 v1 c1 p.next[j] (hI.sl s1) (by omega))
  refine DO.loud rfl rfl (l_call ent37 (CallT.op hk115) rfl ?_)
  clear hk115
  rintro vr O' ⟨N, rfl, cb, cc, rfl, rfl⟩
  refine ⟨Sub.pickR [1, 1, 1, 1, 1, 1, 1] [rowI cb cc 3 1 (ints p.next[j]), oI z7 25 [(.int .i64 p.vars), (.int .i64 p.start), (.slice nb2 p.next.length nc2), (.slice fb2 p.prio.length fc2)], rowI nb2 nc2 23 1 (vals qs), rowI fb2 fc2 3 1 (ints p.prio), oI z5 25 (pC Q k5), pI 23 3 Q k5, oI z2 28 (lC l kl), oI z1 25 (pC p k)] (itms 3 qs) rfl rfl, ?_⟩
  refine DO.loud rfl rfl (l_build1 (v := (.slice cb p.next[j].length cc)) underlying22 inf23 rfl rfl rfl (fun z8 => ⟨Sub.pickR [2, 2, 2, 2, 2, 2, 2] [rowI (some ⟨z8, 0, none⟩) 1 23 1 [(.slice cb p.next[j].length cc)], rowI cb cc 3 1 (ints p.next[j]), oI z7 25 [(.int .i64 p.vars), (.int .i64 p.start), (.slice nb2 p.next.length nc2), (.slice fb2 p.prio.length fc2)], rowI nb2 nc2 23 1 (vals qs), rowI fb2 fc2 3 1 (ints p.prio), oI z5 25 (pC Q k5), pI 23 3 Q k5, oI z2 28 (lC l kl), oI z1 25 (pC p k)] (itms 3 qs) rfl rfl, ?_⟩))
  refine DO.last rfl rfl (l_append 3 underlying22 underlying22 inf23 rfl rfl rfl rfl (by simp [hql]) (by decide) (Src.row (j := 0) rfl (by simp)) (by simp [oneB]) (by omega) (by decide) (by decide) (fun z9 zc10 => ?_))
  refine DO.last rfl rfl (LT.oq rfl rfl (q_fa underlying25 rfl inf22 rfl rfl) ?_)
  refine DO.last rfl rfl (l_sb (v := (.slice z9 (p.next.length + 1) zc10)) (vs := [(.slice z9 (p.next.length + 1) zc10)]) 2 inf22 rfl rfl rfl rfl rfl rfl (by simp [putL]) ?_)
  refine DO.done ?_
  refine T.s ?_
  refine T.draws _ [(0, 0), (1, 0), (2, 0), (3, 0), (4, 0), (5, 0), (6, 0), (7, 1), (8, 2), (9, 2), (10, 2)] mixed (by kernel_rfl) (Sub.of (List.Sublist.refl _)) (fun _ _ _ h => h) ?_
  refine DO.q rfl (q_fa underlying25 rfl inf23 rfl rfl) (DO.q rfl (q_lb 2 underlying23 rfl rfl rfl rfl) (DO.q rfl (q_fa underlying25 rfl inf23 rfl rfl) (DO.q rfl (q_lb 8 underlying23 rfl rfl rfl rfl) ?_)))
  refine DO.q rfl (q_move rfl) (DO.q rfl (q_ix (i := j) underlying23 inf3 rfl rfl (Sl.o h.prio) hjp (by rw [List.length_map]; exact hjp)) (DO.q rfl (q_ld underlying3 rfl rfl (Sl.o h.prio) (ints_get hjp)) ?_))
  refine DO.loud rfl rfl (l_build1 (v := .int .i64 p.prio[j]) underlying23 inf3 rfl rfl rfl (fun z11 => ⟨Sub.pickR [1, 1, 1, 1, 1, 1, 1, 1, 1] [rowI (some ⟨z11, 0, none⟩) 1 3 1 [.int .i64 p.prio[j]], rowI (some ⟨z8, 0, none⟩) 1 23 1 [(.slice cb p.next[j].length cc)], rowI cb cc 3 1 (ints p.next[j]), oI z7 25 [(.int .i64 p.vars), (.int .i64 p.start), (.slice z9 (p.next.length + 1) zc10), (.slice fb2 p.prio.length fc2)], rowI z9 zc10 23 1 ((vals qs) ++ [(.slice cb p.next[j].length cc)]), rowI fb2 fc2 3 1 (ints p.prio), oI z5 25 (pC Q k5), pI 23 3 Q k5, oI z2 28 (lC l kl), oI z1 25 (pC p k)] (itms 3 qs) rfl rfl, ?_⟩))
  refine DO.last rfl rfl (l_append 5 underlying23 underlying23 inf3 rfl rfl rfl rfl (by simp) (by decide) (Src.row (j := 0) rfl (by simp)) (by simp [oneB]) (by omega) (by decide) (by decide) (fun z12 zc13 => ?_))
  refine DO.last rfl rfl (LT.oq rfl rfl (q_fa underlying25 rfl inf23 rfl rfl) ?_)
  refine DO.last rfl rfl (l_sb (v := (.slice z12 (p.prio.length + 1) zc13)) (vs := [(.slice z12 (p.prio.length + 1) zc13)]) 3 inf23 rfl rfl rfl rfl rfl rfl (by simp [putL]) ?_)
  refine DO.done ?_
  refine T.s (T.s (T.rg ?_))
  refine TO.qa rfl ?_
  refine TO.nl (T.block ?_)
  have hpr9 : ints (coPn p j) = ((ints p.prio) ++ [.int .i64 p.prio[j]]) := by unfold coPn; rw [List.getD_eq_getElem?_getD, List.getElem?_eq_getElem hjp]; exact List.map_append
  refine T.sub (O' := [rowI (some ⟨z11, 0, none⟩) 1 3 1 [.int .i64 p.prio[j]], rowI (some ⟨z8, 0, none⟩) 1 23 1 [(.slice cb p.next[j].length cc)], Rec.itm 3 ⟨cb, cc, p.next[j]⟩, oI z7 25 [(.int .i64 p.vars), (.int .i64 p.start), (.slice z9 (p.next.length + 1) zc10), (.slice z12 (p.prio.length + 1) zc13)], rowI z9 zc10 23 1 ((vals qs) ++ [(.slice cb p.next[j].length cc)]), rowI z12 zc13 3 1 ((ints p.prio) ++ [.int .i64 p.prio[j]]), oI z5 25 (pC Q k5), pI 23 3 Q k5, oI z2 28 (lC l kl), oI z1 25 (pC p k)] ++ ((itms 3 qs))) Sub.rf ?_
  refine T.sub (O' := [rowI z9 zc10 23 1 (vals (qs ++ [⟨cb, cc, p.next[j]⟩])), rowI z12 zc13 3 1 (ints (coPn p j)), oI z7 25 [(.int .i64 p.vars), (.int .i64 p.start), (.slice z9 (p.next.length + 1) zc10), (.slice z12 (p.prio.length + 1) zc13)], oI z5 25 (pC Q k5), oI z2 28 (lC l kl), oI z1 25 (pC p k), pI 23 3 Q k5] ++ (itms 3 (qs ++ [⟨cb, cc, p.next[j]⟩]))) (by rw [hpr9, show vals (qs ++ [(⟨cb, cc, p.next[j]⟩ : Rec)]) = (vals qs) ++ [(.slice cb p.next[j].length cc)] by simp [Rec.val]]; exact Sub.cnt [rowI (some ⟨z11, 0, none⟩) 1 3 1 [.int .i64 p.prio[j]], rowI (some ⟨z8, 0, none⟩) 1 23 1 [(.slice cb p.next[j].length cc)]] (by intro a; simp only [itms, oI, List.set_cons_zero, List.set_cons_succ, putL, List.cons_append, List.nil_append, List.append_nil, List.append_assoc, List.map_append, List.map_cons, List.map_nil, cnt_append, cnt_cons, cnt_nil] <;> omega)) ?_
  refine T.loop (fun (s : Nat) ρ O => ∃ (ms : List Rec), O = ([rowI z9 zc10 23 1 (vals ms), rowI z12 zc13 3 1 (ints (coPn p j)), oI z7 25 [(.int .i64 p.vars), (.int .i64 p.start), (.slice z9 (p.next.length + 1) zc10), (.slice z12 (p.prio.length + 1) zc13)], oI z5 25 (pC Q k5), oI z2 28 (lC l kl), oI z1 25 (pC p k), pI 23 3 Q k5] ++ (itms 3 ms)) ∧ s ≤ p.next.length + 1 ∧ nums ms = coN p j s ∧ Heads [(0, (pV p k)), (1, (lV l kl)), (2, .int .u8 ((st : Nat) : Int)), (3, (.pointer (some ⟨z1, 0, none⟩))), (4, (.pointer (some ⟨z2, 0, none⟩))), (6, .bool false), (7, (.pointer (some ⟨z5, 0, none⟩))), (8, .int .i64 (checkP p : Int)), (9, (.pointer (some ⟨z6, 0, none⟩))), (10, .int .i64 ((0 : Nat) : Int)), (11, .int .i64 ((ruV p l : Nat) : Int)), (12, .int .i64 (ruE p l : Int)), (13, .int .i64 ((ruV p l : Nat) : Int)), (14, .int .i64 (ruE p l : Int)), (15, .int .i64 ((j : Nat) : Int)), (16, (.pointer (some ⟨z7, 0, none⟩))), (17, .int .i64 ((s : Nat) : Int))] ρ) (fun s => p.next.length + 1 - s) 0 ?_ ?_
  · exact ⟨qs ++ [⟨cb, cc, p.next[j]⟩], rfl, Nat.zero_le _, (by rw [numsK_snoc, hqs]; exact (coN_zero hj).symm), ⟨rfl, rfl, rfl, rfl, rfl, rfl, rfl, rfl, rfl, rfl, rfl, rfl, rfl, rfl, rfl, rfl, rfl, trivial⟩⟩
  rintro s ρ O ⟨ms, rfl, hs, hms, hH⟩
  obtain ⟨ρ0, rfl⟩ := hH.elim
  clear hH
  have hml := coN_ql hms
  refine T.s (T.s (T.rg ?_))
  refine TO.qm rfl (TO.q (q_fa underlying25 rfl inf22 rfl rfl) (TO.q (q_lb 2 underlying22 rfl rfl rfl rfl) (TO.q (q_len underlying22 rfl) ?_)))
  refine TO.q (q_lss rfl rfl) ?_
  refine TO.nl ?_
  refine T.condP rfl (fun hc => ?_) (fun hc => ?_)
  · have hlt133 : s < p.next.length + 1 := by omega
    refine T.skip (T.s (T.block (T.s (T.rg ?_))))
    refine TO.qa rfl ?_
    refine TO.nl (T.block ?_)
    refine T.loop (fun (x : Nat) ρ O => ∃ (ks : List Rec), O = ([rowI z9 zc10 23 1 (vals ks), rowI z12 zc13 3 1 (ints (coPn p j)), oI z7 25 [(.int .i64 p.vars), (.int .i64 p.start), (.slice z9 (p.next.length + 1) zc10), (.slice z12 (p.prio.length + 1) zc13)], oI z5 25 (pC Q k5), oI z2 28 (lC l kl), oI z1 25 (pC p k), pI 23 3 Q k5] ++ (itms 3 ks)) ∧ x ≤ 1 ∧ (x = 1 → s % 2 = 0) ∧ nums ks = coN p j (s + x) ∧ Heads [(0, (pV p k)), (1, (lV l kl)), (2, .int .u8 ((st : Nat) : Int)), (3, (.pointer (some ⟨z1, 0, none⟩))), (4, (.pointer (some ⟨z2, 0, none⟩))), (6, .bool false), (7, (.pointer (some ⟨z5, 0, none⟩))), (8, .int .i64 (checkP p : Int)), (9, (.pointer (some ⟨z6, 0, none⟩))), (10, .int .i64 ((0 : Nat) : Int)), (11, .int .i64 ((ruV p l : Nat) : Int)), (12, .int .i64 (ruE p l : Int)), (13, .int .i64 ((ruV p l : Nat) : Int)), (14, .int .i64 (ruE p l : Int)), (15, .int .i64 ((j : Nat) : Int)), (16, (.pointer (some ⟨z7, 0, none⟩))), (17, .int .i64 ((s : Nat) : Int)), (18, .int .i64 ((x : Nat) : Int))] ρ) (fun x => 2 - x) 0 ?_ ?_
    · exact ⟨ms, rfl, Nat.zero_le _, (fun h9 => absurd h9 (by decide)), hms, ⟨rfl, rfl, rfl, rfl, rfl, rfl, rfl, rfl, rfl, rfl, rfl, rfl, rfl, rfl, rfl, rfl, rfl, rfl, trivial⟩⟩
    rintro x ρ O ⟨ks, rfl, hx, hx1, hkk, hH⟩
    obtain ⟨ρ0, rfl⟩ := hH.elim
    clear hH
    have hkl := coN_ql hkk
    have hks : s < ks.length := by omega
    have hrow := coN_row hkk hks
    have hrl : ks[s].xs.length = letN p.d := by rw [hrow]; exact coR_len hv hj (by omega)
    refine T.s (T.s (T.rg ?_))
    refine TO.qm rfl (TO.q (q_fa underlying25 rfl inf22 rfl rfl) (TO.q (q_lb 2 underlying22 rfl rfl rfl rfl) (TO.qm rfl ?_)))
    refine TO.q (q_ix (i := s) underlying22 inf23 rfl rfl (rowO (mG 0 rfl)) (by omega) (by rw [List.length_map]; exact hks)) (TO.q (q_ld underlying23 rfl rfl (rowO (mG 0 rfl)) (valsK_at hks)) (TO.q (q_len underlying23 rfl) ?_))
    by_cases h143 : ((x : Nat) : Int) < (ks[s].xs.length : Int)
    · refine TO.q (QT.toB (q_lss rfl rfl) (decide_eq_true h143)) ?_
      refine TO.qm rfl ?_
      refine TO.gd rfl rfl rfl (LT.oq rfl rfl (q_move rfl) ?_)
      refine TO.gd rfl rfl rfl (LT.oq rfl rfl (q_move rfl) ?_)
      refine TO.gd rfl rfl rfl (LT.oq rfl rfl (q_addN (a := s) (b := x) rfl rfl (by omega)) ?_)
      refine TO.gd rfl rfl rfl (LT.oq rfl rfl (q_remN (a := (s + x)) (b := 2) rfl rfl (by omega)) ?_)
      refine TO.gd rfl rfl rfl (LT.oq rfl rfl (q_eql rfl rfl) ?_)
      refine TO.q (q_pick1 rfl rfl) ?_
      refine TO.nl ?_
      refine T.condP rfl (fun hc => ?_) (fun hc => ?_)
      · have hlt150 : (s + x) % 2 = 0 := by omega
        have hxr : x < ks[s].xs.length := by omega
        have h2x : (s + x) % 2 = 0 := by omega
        have hx0 := coN_x hx hx1 h2x
        have htn := coN_turn hx hx1 hkk hks hxr h2x
        refine T.skip (T.s (T.block (T.s (T.rg ?_))))
        refine TO.q (q_fa underlying25 rfl inf22 rfl rfl) (TO.q (q_lb 2 underlying22 rfl rfl rfl rfl) (TO.qm rfl (TO.q (q_ix (i := s) underlying22 inf23 rfl rfl (rowO (mG 0 rfl)) (by omega) (by rw [List.length_map]; exact hks)) ?_)))
        refine TO.q (q_ld underlying23 rfl rfl (rowO (mG 0 rfl)) (valsK_at hks)) (TO.qm rfl (TO.q (q_ix (i := x) underlying23 inf3 rfl rfl (fun w9 hI9 => hI9.slOf (itmsK_at (E := 3) hks)) hxr (by rw [List.length_map]; exact hxr)) (TO.q (q_ld underlying3 rfl rfl (fun w9 hI9 => hI9.slOf (itmsK_at (E := 3) hks)) (ints_get hxr)) ?_)))
        refine TO.qm rfl (TO.q (q_eql rfl rfl) ?_)
        refine TO.nl ?_
        refine T.condP rfl (fun hc => ?_) (fun hc => ?_)
        · have hyes : ks[s].xs[x] = (j : Int) := by first | exact hc | omega
          refine T.sub (subK_out hks [rowI z9 zc10 23 1 (vals ks), rowI z12 zc13 3 1 (ints (coPn p j)), oI z7 25 [(.int .i64 p.vars), (.int .i64 p.start), (.slice z9 (p.next.length + 1) zc10), (.slice z12 (p.prio.length + 1) zc13)], oI z5 25 (pC Q k5), oI z2 28 (lC l kl), oI z1 25 (pC p k), pI 23 3 Q k5]) ?_
          refine T.draws _ [(0, 0), (1, 0), (2, 0), (3, 0), (4, 0), (5, 0), (6, 0), (7, 0), (8, 0), (9, 0), (10, 2)] mixed (by kernel_rfl) (Sub.of (List.Sublist.refl _)) (fun _ _ _ h => h) ?_
          refine DO.q rfl (q_fa underlying25 rfl inf22 rfl rfl) (DO.q rfl (q_lb 3 underlying22 rfl rfl rfl rfl) (DO.q rfl (q_move rfl) (DO.q rfl (q_ix (i := s) underlying22 inf23 rfl rfl (rowO (mG 1 rfl)) (by omega) (by rw [List.length_map]; exact hks)) ?_)))
          refine DO.q rfl (q_ld underlying23 rfl rfl (rowO (mG 1 rfl)) (valsK_at hks)) (DO.q rfl (q_move rfl) (DO.q rfl (q_fa underlying25 rfl inf22 rfl rfl) (DO.q rfl (q_lb 6 underlying22 rfl rfl rfl rfl) ?_)))
          refine DO.q rfl (q_len underlying22 rfl) (DO.q rfl (q_ix (i := x) underlying23 inf3 rfl rfl (rowO (mG 0 rfl)) hxr (by rw [List.length_map]; exact hxr)) ?_)
          refine DO.last rfl rfl (l_st (j := x) (v := .int .i64 (p.next.length : Int)) (vs := [(.int .i64 (p.next.length : Int))]) (cs := ints ks[s].xs) 0 inf3 rfl rfl rfl rfl rfl (by simp) rfl (by rw [List.length_map]; exact hxr) ?_)
          refine DO.sub (O' := ([rowI ks[s].b ks[s].c 3 1 (ints (ks[s].xs.set x (p.next.length : Int))), rowI z9 zc10 23 1 (vals ks), rowI z12 zc13 3 1 (ints (coPn p j)), oI z7 25 [(.int .i64 p.vars), (.int .i64 p.start), (.slice z9 (p.next.length + 1) zc10), (.slice z12 (p.prio.length + 1) zc13)], oI z5 25 (pC Q k5), oI z2 28 (lC l kl), oI z1 25 (pC p k), pI 23 3 Q k5] ++ (itms 3 (ks.eraseIdx s)))) (by rw [show putL (ints ks[s].xs) x [(.int .i64 (p.next.length : Int))] = ints (ks[s].xs.set x (p.next.length : Int)) from (by simp [putL])]; exact Sub.of (List.Sublist.refl _)) ?_
          refine DO.done ?_
          refine T.sub (O' := [rowI ks[s].b ks[s].c 3 1 (ints (ks[s].xs.set x (p.next.length : Int))), rowI z9 zc10 23 1 (vals ks), rowI z12 zc13 3 1 (ints (coPn p j)), oI z7 25 [(.int .i64 p.vars), (.int .i64 p.start), (.slice z9 (p.next.length + 1) zc10), (.slice z12 (p.prio.length + 1) zc13)], oI z5 25 (pC Q k5), oI z2 28 (lC l kl), oI z1 25 (pC p k), pI 23 3 Q k5] ++ (itms 3 (ks.eraseIdx s))) (Sub.pickR [0, 0, 0, 0, 0, 0, 0, 0] [rowI ks[s].b ks[s].c 3 1 (ints (ks[s].xs.set x (p.next.length : Int))), rowI z9 zc10 23 1 (vals ks), rowI z12 zc13 3 1 (ints (coPn p j)), oI z7 25 [(.int .i64 p.vars), (.int .i64 p.start), (.slice z9 (p.next.length + 1) zc10), (.slice z12 (p.prio.length + 1) zc13)], oI z5 25 (pC Q k5), oI z2 28 (lC l kl), oI z1 25 (pC p k), pI 23 3 Q k5] (itms 3 (ks.eraseIdx s)) rfl rfl) ?_
          refine T.sub (O' := [rowI z9 zc10 23 1 (vals ks), rowI z12 zc13 3 1 (ints (coPn p j)), oI z7 25 [(.int .i64 p.vars), (.int .i64 p.start), (.slice z9 (p.next.length + 1) zc10), (.slice z12 (p.prio.length + 1) zc13)], oI z5 25 (pC Q k5), oI z2 28 (lC l kl), oI z1 25 (pC p k), pI 23 3 Q k5] ++ (itms 3 (ks.set s ⟨ks[s].b, ks[s].c, ks[s].xs.set x (p.next.length : Int)⟩))) (subK_in hks [rowI z9 zc10 23 1 (vals ks), rowI z12 zc13 3 1 (ints (coPn p j)), oI z7 25 [(.int .i64 p.vars), (.int .i64 p.start), (.slice z9 (p.next.length + 1) zc10), (.slice z12 (p.prio.length + 1) zc13)], oI z5 25 (pC Q k5), oI z2 28 (lC l kl), oI z1 25 (pC p k), pI 23 3 Q k5] ⟨ks[s].b, ks[s].c, ks[s].xs.set x (p.next.length : Int)⟩ rfl) ?_
          refine T.sub (O' := [rowI z9 zc10 23 1 (vals (ks.set s ⟨ks[s].b, ks[s].c, ks[s].xs.set x (p.next.length : Int)⟩)), rowI z12 zc13 3 1 (ints (coPn p j)), oI z7 25 [(.int .i64 p.vars), (.int .i64 p.start), (.slice z9 (p.next.length + 1) zc10), (.slice z12 (p.prio.length + 1) zc13)], oI z5 25 (pC Q k5), oI z2 28 (lC l kl), oI z1 25 (pC p k), pI 23 3 Q k5] ++ (itms 3 (ks.set s ⟨ks[s].b, ks[s].c, ks[s].xs.set x (p.next.length : Int)⟩))) (by rw [vals_same hks (by simp)]; exact Sub.rf) ?_
          refine T.rg ?_
          refine TO.qm rfl (TO.q (q_addN (a := x) (b := 1) rfl rfl (by omega)) (TO.qa rfl ?_))
          refine TO.nl ?_
          exact ⟨x + 1, by omega, ks.set s ⟨ks[s].b, ks[s].c, ks[s].xs.set x (p.next.length : Int)⟩, rfl, by omega, (fun _ => by omega), htn.2 hyes _ rfl, ⟨rfl, rfl, rfl, rfl, rfl, rfl, rfl, rfl, rfl, rfl, rfl, rfl, rfl, rfl, rfl, rfl, rfl, rfl, trivial⟩⟩
        refine T.skip ?_
        have hno9 : ks[s].xs[x] ≠ (j : Int) := by first | exact hc | omega
        refine T.rg ?_
        refine TO.qm rfl (TO.q (q_addN (a := x) (b := 1) rfl rfl (by omega)) (TO.qa rfl ?_))
        refine TO.nl ?_
        exact ⟨x + 1, by omega, ks, rfl, by omega, (fun _ => by omega), htn.1 hno9, ⟨rfl, rfl, rfl, rfl, rfl, rfl, rfl, rfl, rfl, rfl, rfl, rfl, rfl, rfl, rfl, rfl, rfl, rfl, trivial⟩⟩
      have hge150 : ¬ (s + x) % 2 = 0 := by omega
      refine T.exit ?_
      refine T.rg ?_
      refine TO.qm rfl (TO.q (q_addN (a := s) (b := 1) rfl rfl (by omega)) (TO.qa rfl ?_))
      refine TO.nl ?_
      exact ⟨s + 1, by omega, ks, rfl, by omega, coN_exit hx hkk hks (by omega), ⟨rfl, rfl, rfl, rfl, rfl, rfl, rfl, rfl, rfl, rfl, rfl, rfl, rfl, rfl, rfl, rfl, rfl, trivial⟩⟩
    refine TO.q (QT.toB (q_lss rfl rfl) (decide_eq_false h143)) (TO.qm rfl ?_)
    refine TO.pd rfl rfl ?_
    refine TO.pd rfl rfl ?_
    refine TO.pd rfl rfl ?_
    refine TO.pd rfl rfl ?_
    refine TO.pd rfl rfl ?_
    refine TO.q (q_pick0 rfl rfl) ?_
    refine TO.nl ?_
    refine T.cond0 rfl ?_
    refine T.exit ?_
    refine T.rg ?_
    refine TO.qm rfl (TO.q (q_addN (a := s) (b := 1) rfl rfl (by omega)) (TO.qa rfl ?_))
    refine TO.nl ?_
    exact ⟨s + 1, by omega, ks, rfl, by omega, coN_exit hx hkk hks (by omega), ⟨rfl, rfl, rfl, rfl, rfl, rfl, rfl, rfl, rfl, rfl, rfl, rfl, rfl, rfl, rfl, rfl, rfl, trivial⟩⟩
  have hge133 : ¬ s < p.next.length + 1 := by omega
  have hmd : nums ms = (coP p j).next := by rw [hms, show s = p.next.length + 1 by omega]; rfl
  refine T.exit ?_
  refine T.s (T.rg ?_)
  refine TO.q (q_la 2 underlying25 rfl inf25 rfl rfl rfl) ?_
  have hk175 := fun (w1 : World) (hI : Inv w ([rowI z9 zc10 23 1 (vals ms), rowI z12 zc13 3 1 (ints (coPn p j)), oI z7 25 [(.int .i64 p.vars), (.int .i64 p.start), (.slice z9 (p.next.length + 1) zc10), (.slice z12 (p.prio.length + 1) zc13)], oI z5 25 (pC Q k5), oI z2 28 (lC l kl), oI z1 25 (pC p k), pI 23 3 Q k5] ++ (itms 3 ms)) w1) => (haveI := tbz hI; (show PureT _ _ _ _ _ from by
      have h9 := parQuo w1 (coP p j) ⟨z9, zc10, z12, zc13, ms⟩ (hI.atRows (mG 0 rfl) (mG 1 rfl) (fun q9 h9 => List.mem_append_right _ (List.mem_map_of_mem h9)) hmd) hcv.c
      rw [cpV, hcq.2, eQ, hcq.1] at h9
      exact h9))
  refine TO.l rfl (l_call ent27 (CallT.op hk175) rfl ?_)
  clear hk175
  rintro vr O' ⟨N, rfl, k9, rfl, rfl⟩
  refine TO.qm rfl (TO.q (q_extract (vs := _) rfl rfl) (TO.q (q_extract (vs := _) rfl rfl) ?_))
  refine TO.l rfl (l_alloc inf25 rfl (fun z14 => ?_))
  refine TO.l rfl (l_sb (v := (pV Q k9)) (vs := (pC Q k9)) 0 inf25 rfl rfl rfl rfl rfl rfl (by simp [putL]) ?_)
  refine TO.qa rfl ?_
  refine TO.nl (T.s (T.rg ?_))
  refine TO.qm rfl (TO.q (QT.toB (q_eql rfl rfl) (decide_eq_true rfl)) (TO.qm rfl ?_))
  refine TO.gd rfl rfl rfl (LT.oq rfl rfl (q_la 0 underlying25 rfl inf25 rfl rfl rfl) ?_)
  refine TO.gd rfl rfl rfl (LT.oq rfl rfl (q_la 5 underlying25 rfl inf25 rfl rfl rfl) ?_)
  have hk183 := fun (w1 : World) (hI : Inv w ([oI z14 25 (pC Q k9), pI 23 3 Q k9, rowI z9 zc10 23 1 (vals ms), rowI z12 zc13 3 1 (ints (coPn p j)), oI z7 25 [(.int .i64 p.vars), (.int .i64 p.start), (.slice z9 (p.next.length + 1) zc10), (.slice z12 (p.prio.length + 1) zc13)], oI z5 25 (pC Q k5), oI z2 28 (lC l kl), oI z1 25 (pC p k), pI 23 3 Q k5] ++ (itms 3 ms)) w1) => (haveI := tbz hI; (show PureT _ _ _ _ _ from by
      have h9 := equalPar w1 Q k9 (hI.atP (II := 23) (I := 3) (mG 1 rfl)) Q k5 (hI.atP (II := 23) (I := 3) (mG 8 rfl)) hQ
      rw [decide_eq_true rfl] at h9
      exact h9))
  refine TO.gd rfl rfl rfl (l_call ent22 (CallT.op hk183) rfl ?_)
  clear hk183
  rintro vr O' ⟨N, rfl, rfl, rfl⟩
  refine TO.q (q_pick1 rfl rfl) (TO.qa rfl ?_)
  refine TO.nl (T.ret (Res.drop ?_))
  refine Res.one (.bool true) Tryd.results8 rfl ?_
  exact ⟨[], Sub.of (List.nil_sublist _), rfl, rfl⟩
end Go.Proofs.YtnikhiohindggaaDoor

