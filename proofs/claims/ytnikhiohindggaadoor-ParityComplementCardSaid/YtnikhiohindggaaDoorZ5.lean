/- Contracts of functions of the program (Z5): what each call answers and that it leaves memory as it was. Conditions: those each theorem names. -/
import Derived.Test.YtnikhiohindggaaDoorCoreK
import Derived.Test.YtnikhiohindggaaDoorZ4
set_option linter.unusedSectionVars false
set_option linter.unusedSimpArgs false
set_option linter.unusedVariables false
set_option linter.unnecessarySimpa false
set_option maxHeartbeats 8000000
set_option maxRecDepth 20000
namespace Go.Proofs.YtnikhiohindggaaDoor
open Go.Lx Go.RowKit _root_.Go.Proofs.Tryd
theorem complementW (w : World) [Tab Tryd.prog w] (p : Par) (k : DK) (h : AtP w p k) (hB : ParC p) (l : La) (kl : LK) (hl : AtL w l kl) (hp8 : ∀ x ∈ l.pre, x < 256) (hl8 : ∀ x ∈ l.loop, x < 256) :
    PureT Tryd.prog 7 [pV p k, lV l kl] w fun v N => v = .bool true ∧ N = [] := by
  refine CallT.enter func7 rfl ntmps7 rfl ?_
  obtain ⟨C, eC⟩ : ∃ zz, coV p = zz := ⟨_, rfl⟩
  obtain ⟨R, eR⟩ : ∃ zz, rdV C = zz := ⟨_, rfl⟩
  obtain ⟨D, eD⟩ : ∃ zz, coV R = zz := ⟨_, rfl⟩
  have hC : ParC C := eC ▸ coV_c hB
  have hR : ParC R := eR ▸ rdV_c hC
  have hD : ParC D := eD ▸ coV_c hR
  refine T.s (T.rg ?_)
  refine TO.l rfl (l_box (v := (pV p k)) (cs := (pC p k)) rfl rfl (fun z1 => ?_))
  refine TO.l rfl (l_box (v := (lV l kl)) (cs := (lC l kl)) rfl rfl (fun z2 => ?_))
  refine TO.qa rfl ?_
  refine TO.nl (T.s (T.s (T.rg ?_)))
  refine TO.q (q_la 1 underlying25 rfl inf25 rfl rfl rfl) ?_
  refine TO.l rfl (l_buildSlice (m := 1) (parts := [(0, _)]) (cs := (pC p k)) underlying59 inf25 (by decide) (by kernel_rfl) rfl (fun z3 => ?_))
  have hk23 := fun (w1 : World) (hI : Inv w [rowI (some ⟨z3, 0, none⟩) 1 25 4 (pC p k), oI z2 28 (lC l kl), oI z1 25 (pC p k)] w1) => (haveI := tbz hI; (show PureT _ _ _ _ _ from by
      have h9 := longPF w1 (some ⟨z3, 0, none⟩) 1 [(p, k)] (hI.slOf (cs := parsC [(p, k)]) (mG 0 rfl)) (by intro q9 hq; simp only [List.mem_cons, List.not_mem_nil, or_false] at hq; rcases hq with rfl <;> first | exact hI.atQ h) (by show 1 < 1000000; decide) (by intro q9 hq; simp only [List.mem_cons, List.not_mem_nil, or_false] at hq; rcases hq with rfl <;> first | exact hB)
      rw [show ([(p, k)] : List (Par × DK)).any (fun q => Lx.longP q.1) = Lx.longP p by simp] at h9
      exact h9))
  refine TO.l rfl (l_call ent10 (CallT.op hk23) rfl ?_)
  clear hk23
  rintro vr O' ⟨N, rfl, rfl, rfl⟩
  by_cases h24 : Lx.longP p = true
  · refine TO.q (QT.toB (q_move rfl) (h24)) ?_
    refine TO.pd rfl rfl ?_
    refine TO.pd rfl rfl ?_
    refine TO.pd rfl rfl ?_
    refine TO.pd rfl rfl ?_
    refine TO.q (q_pick1 rfl rfl) (TO.qm rfl ?_)
    refine TO.pd rfl rfl ?_
    refine TO.pd rfl rfl ?_
    refine TO.pd rfl rfl ?_
    refine TO.q (q_pick1 rfl rfl) (TO.qm rfl ?_)
    refine TO.pd rfl rfl ?_
    refine TO.pd rfl rfl ?_
    refine TO.q (q_pick1 rfl rfl) ?_
    refine TO.nl ?_
    refine T.cond1 rfl ?_
    refine T.s (T.rg ?_)
    have hk39 := fun (w1 : World) (hI : Inv w [rowI (some ⟨z3, 0, none⟩) 1 25 4 (pC p k), oI z2 28 (lC l kl), oI z1 25 (pC p k)] w1) => (haveI := tbz hI; awakeC w1)
    refine TO.l rfl (l_call ent12 (CallT.op hk39) rfl ?_)
    clear hk39
    rintro vr O' ⟨N, rfl, rfl, rfl⟩
    refine TO.qa rfl ?_
    refine TO.nl (T.ret (Res.drop ?_))
    refine Res.one (.bool true) Tryd.results7 rfl ?_
    exact ⟨[], Sub.of (List.nil_sublist _), rfl, rfl⟩
  refine TO.q (QT.toB (q_move rfl) (Bool.eq_false_iff.2 h24)) ?_
  refine TO.gd rfl rfl rfl (LT.oq rfl rfl (q_fa underlying25 rfl inf22 rfl rfl) ?_)
  refine TO.gd rfl rfl rfl (LT.oq rfl rfl (q_lb 2 underlying22 rfl rfl rfl rfl) ?_)
  refine TO.gd rfl rfl rfl (LT.oq rfl rfl (q_len underlying22 rfl) ?_)
  by_cases h28 : (p.next.length : Int) > 6
  · refine TO.gd rfl rfl rfl (LT.oq rfl rfl (QT.toB (q_gtr rfl rfl) (decide_eq_true h28)) ?_)
    refine TO.q (q_pick0 rfl rfl) (TO.qm rfl ?_)
    refine TO.pd rfl rfl ?_
    refine TO.pd rfl rfl ?_
    refine TO.pd rfl rfl ?_
    refine TO.q (q_pick1 rfl rfl) (TO.qm rfl ?_)
    refine TO.pd rfl rfl ?_
    refine TO.pd rfl rfl ?_
    refine TO.q (q_pick1 rfl rfl) ?_
    refine TO.nl ?_
    refine T.cond1 rfl ?_
    refine T.s (T.rg ?_)
    have hk39 := fun (w1 : World) (hI : Inv w [rowI (some ⟨z3, 0, none⟩) 1 25 4 (pC p k), oI z2 28 (lC l kl), oI z1 25 (pC p k)] w1) => (haveI := tbz hI; awakeC w1)
    refine TO.l rfl (l_call ent12 (CallT.op hk39) rfl ?_)
    clear hk39
    rintro vr O' ⟨N, rfl, rfl, rfl⟩
    refine TO.qa rfl ?_
    refine TO.nl (T.ret (Res.drop ?_))
    refine Res.one (.bool true) Tryd.results7 rfl ?_
    exact ⟨[], Sub.of (List.nil_sublist _), rfl, rfl⟩
  refine TO.gd rfl rfl rfl (LT.oq rfl rfl (QT.toB (q_gtr rfl rfl) (decide_eq_false h28)) ?_)
  refine TO.q (q_pick0 rfl rfl) (TO.qm rfl ?_)
  refine TO.gd rfl rfl rfl (LT.oq rfl rfl (q_la 1 underlying28 rfl inf28 rfl rfl rfl) ?_)
  refine TO.gd rfl rfl rfl (l_buildSlice (m := 1) (parts := [(0, _)]) (cs := (lC l kl)) underlying60 inf28 (by decide) (by kernel_rfl) rfl (fun z4 => ?_))
  have hk33 := fun (w1 : World) (hI : Inv w [rowI (some ⟨z4, 0, none⟩) 1 28 2 (lC l kl), rowI (some ⟨z3, 0, none⟩) 1 25 4 (pC p k), oI z2 28 (lC l kl), oI z1 25 (pC p k)] w1) => (haveI := tbz hI; (show PureT _ _ _ _ _ from by
      have h9 := longLF w1 (some ⟨z4, 0, none⟩) 1 [⟨l, kl.pb, kl.pc, kl.lb, kl.lc⟩] (hI.slOf (cs := lasC [⟨l, kl.pb, kl.pc, kl.lb, kl.lc⟩]) (mG 0 rfl)) (by show 1 < 9223372036854775807; decide)
      rw [show ([⟨l, kl.pb, kl.pc, kl.lb, kl.lc⟩] : List LaRef).any (fun q => Lx.longL q.l) = Lx.longL l by simp] at h9
      exact h9))
  refine TO.gd rfl rfl rfl (l_call ent11 (CallT.op hk33) rfl ?_)
  clear hk33
  rintro vr O' ⟨N, rfl, rfl, rfl⟩
  refine TO.q (q_pick0 rfl rfl) ?_
  by_cases h35 : Lx.longL l = true
  · refine TO.q (QT.toB (q_move rfl) (h35)) ?_
    refine TO.pd rfl rfl ?_
    refine TO.pd rfl rfl ?_
    refine TO.q (q_pick1 rfl rfl) ?_
    refine TO.nl ?_
    refine T.cond1 rfl ?_
    refine T.s (T.rg ?_)
    have hk39 := fun (w1 : World) (hI : Inv w [rowI (some ⟨z4, 0, none⟩) 1 28 2 (lC l kl), rowI (some ⟨z3, 0, none⟩) 1 25 4 (pC p k), oI z2 28 (lC l kl), oI z1 25 (pC p k)] w1) => (haveI := tbz hI; awakeC w1)
    refine TO.l rfl (l_call ent12 (CallT.op hk39) rfl ?_)
    clear hk39
    rintro vr O' ⟨N, rfl, rfl, rfl⟩
    refine TO.qa rfl ?_
    refine TO.nl (T.ret (Res.drop ?_))
    refine Res.one (.bool true) Tryd.results7 rfl ?_
    exact ⟨[], Sub.of (List.nil_sublist _), rfl, rfl⟩
  refine TO.q (QT.toB (q_move rfl) (Bool.eq_false_iff.2 h35)) ?_
  have hk36 := fun (w1 : World) (hI : Inv w [rowI (some ⟨z4, 0, none⟩) 1 28 2 (lC l kl), rowI (some ⟨z3, 0, none⟩) 1 25 4 (pC p k), oI z2 28 (lC l kl), oI z1 25 (pC p k)] w1) => (haveI := tbz hI; awakeC w1)
  refine TO.gd rfl rfl rfl (l_call ent12 (CallT.op hk36) rfl ?_)
  clear hk36
  rintro vr O' ⟨N, rfl, rfl, rfl⟩
  refine TO.gd rfl rfl rfl (LT.oq rfl rfl (q_not rfl) ?_)
  refine TO.q (q_pick0 rfl rfl) ?_
  refine TO.nl ?_
  refine T.cond0 rfl ?_
  refine T.skip (T.s (T.rg ?_))
  refine TO.q (q_la 3 underlying25 rfl inf25 rfl rfl rfl) ?_
  have hk42 := fun (w1 : World) (hI : Inv w [rowI (some ⟨z4, 0, none⟩) 1 28 2 (lC l kl), rowI (some ⟨z3, 0, none⟩) 1 25 4 (pC p k), oI z2 28 (lC l kl), oI z1 25 (pC p k)] w1) => (haveI := tbz hI; (show PureT _ _ _ _ _ from by
      have h9 := parCo w1 p k (hI.atQ h) hB
      rw [eC] at h9
      exact h9))
  refine TO.l rfl (l_call ent18 (CallT.op hk42) rfl ?_)
  clear hk42
  rintro vr O' ⟨N, rfl, k5, rfl, rfl⟩
  refine TO.qm rfl (TO.q (q_extract (vs := _) rfl rfl) (TO.q (q_extract (vs := _) rfl rfl) ?_))
  refine TO.l rfl (l_alloc inf25 rfl (fun z5 => ?_))
  refine TO.l rfl (l_sb (v := (pV C k5)) (vs := (pC C k5)) 0 inf25 rfl rfl rfl rfl rfl rfl (by simp [putL]) ?_)
  refine TO.qa rfl ?_
  refine TO.sub (O' := [oI z5 25 (pC C k5), pI 23 3 C k5, oI z2 28 (lC l kl), oI z1 25 (pC p k)]) (Sub.pick [0, 0, 2, 2] rfl) ?_
  refine TO.nl (T.s (T.s (T.rg ?_)))
  refine TO.qm rfl (TO.q (q_neq rfl rfl) ?_)
  refine TO.nl ?_
  refine T.condP rfl (fun hc => ?_) (fun hc => ?_)
  · have hlt46 : coE p ≠ 0 := by omega
    have hCn : C = noP := by rw [← eC]; exact coV_no (by omega)
    refine T.s (T.rg ?_)
    refine TO.q (q_fa underlying25 rfl inf22 rfl rfl) (TO.q (q_lb 0 underlying22 rfl rfl rfl rfl) (TO.q (q_len underlying22 rfl) (TO.q (q_eql rfl rfl) ?_)))
    refine TO.qa rfl ?_
    refine TO.nl (T.ret (Res.drop ?_))
    refine Res.one (.bool (decide ((C.next.length : Int) = 0))) Tryd.results7 rfl ?_
    exact ⟨[], Sub.of (List.nil_sublist _), congrArg Value.bool (decide_eq_true (by rw [hCn]; rfl)), rfl⟩
  have hge46 : ¬ coE p ≠ 0 := by omega
  have hL : LaB l := longL_lab h35 hp8 hl8
  have hc0 : coE p = 0 := by omega
  have hcr := coV_run hc0 l
  rw [eC] at hcr
  have hcv : checkP C = 0 := checkP_zero.2 (eC ▸ coV_valid hc0)
  have hrv : checkP R = 0 := checkP_zero.2 (eR ▸ rdV_valid hcv)
  refine T.skip (T.s (T.rg ?_))
  refine TO.q (q_la 3 underlying25 rfl inf25 rfl rfl rfl) (TO.q (q_la 2 underlying28 rfl inf28 rfl rfl rfl) ?_)
  have hk54 := fun (w1 : World) (hI : Inv w [oI z5 25 (pC C k5), pI 23 3 C k5, oI z2 28 (lC l kl), oI z1 25 (pC p k)] w1) => (haveI := tbz hI; parAcc w1 p k (hI.atQ h) hB l kl (hI.atU hl) hL)
  refine TO.l rfl (l_call ent17 (CallT.op hk54) rfl ?_)
  clear hk54
  rintro vr O' ⟨N, rfl, rfl, rfl⟩
  refine TO.qm rfl (TO.q (q_extract (vs := _) rfl rfl) (TO.q (q_extract (vs := _) rfl rfl) (TO.qa rfl ?_)))
  refine TO.qa rfl ?_
  refine TO.sub (O' := [oI z5 25 (pC C k5), pI 23 3 C k5, oI z2 28 (lC l kl), oI z1 25 (pC p k)]) (Sub.pick [0, 0, 0, 0] rfl) ?_
  refine TO.nl (T.s (T.rg ?_))
  refine TO.q (q_la 0 underlying25 rfl inf25 rfl rfl rfl) (TO.q (q_la 2 underlying28 rfl inf28 rfl rfl rfl) ?_)
  have hk60 := fun (w1 : World) (hI : Inv w [oI z5 25 (pC C k5), pI 23 3 C k5, oI z2 28 (lC l kl), oI z1 25 (pC p k)] w1) => (haveI := tbz hI; (show PureT _ _ _ _ _ from by
      have h9 := parAcc w1 C k5 (hI.atP (II := 23) (I := 3) (mG 1 rfl)) hC l kl (hI.atU hl) hL
      rw [hcr.1] at h9
      exact h9))
  refine TO.l rfl (l_call ent17 (CallT.op hk60) rfl ?_)
  clear hk60
  rintro vr O' ⟨N, rfl, rfl, rfl⟩
  refine TO.qm rfl (TO.q (q_extract (vs := _) rfl rfl) (TO.q (q_extract (vs := _) rfl rfl) (TO.qa rfl ?_)))
  refine TO.qa rfl ?_
  refine TO.sub (O' := [oI z5 25 (pC C k5), pI 23 3 C k5, oI z2 28 (lC l kl), oI z1 25 (pC p k)]) (Sub.pick [0, 0, 0, 0] rfl) ?_
  refine TO.nl (T.s (T.s (T.rg ?_)))
  refine TO.qm rfl (TO.qm rfl (TO.q (QT.toB (q_neq rfl rfl) (decide_eq_false (fun h9 => h9 rfl))) (TO.qm rfl ?_)))
  refine TO.gd rfl rfl rfl (LT.oq rfl rfl (q_move rfl) ?_)
  by_cases h68 : ((ruE p l : Nat) : Int) = 0
  · refine TO.gd rfl rfl rfl (LT.oq rfl rfl (QT.toB (q_eql rfl rfl) (decide_eq_true h68)) ?_)
    refine TO.gd rfl rfl rfl (LT.oq rfl rfl (q_move rfl) ?_)
    refine TO.gd rfl rfl rfl (LT.oq rfl rfl (q_move rfl) ?_)
    refine TO.gd rfl rfl rfl (LT.oq rfl rfl (q_move rfl) ?_)
    refine TO.gd rfl rfl rfl (LT.oq rfl rfl (QT.cast (q_beql underlying4 rfl rfl) (v' := .bool false) (congrArg Value.bool (acB_co (by omega) (by have := hcr.1; omega) (hcr.2 (by omega))))) ?_)
    refine TO.gd rfl rfl rfl (LT.oq rfl rfl (q_pick1 rfl rfl) ?_)
    refine TO.q (q_pick0 rfl rfl) ?_
    refine TO.nl ?_
    refine T.cond0 rfl ?_
    refine T.skip (T.s (T.rg ?_))
    refine TO.q (q_la 3 underlying25 rfl inf25 rfl rfl rfl) (TO.q (q_la 0 underlying25 rfl inf25 rfl rfl rfl) ?_)
    have hk78 := fun (w1 : World) (hI : Inv w [oI z5 25 (pC C k5), pI 23 3 C k5, oI z2 28 (lC l kl), oI z1 25 (pC p k)] w1) => (haveI := tbz hI; difCo w1 p k (hI.atQ h) C k5 (hI.atP (II := 23) (I := 3) (mG 1 rfl)) hB hC hc0 eC (by omega))
    refine TO.l rfl (l_call ent29 (CallT.op hk78) rfl ?_)
    clear hk78
    rintro vr O' ⟨N, rfl, l1, kl1, rfl, rfl⟩
    refine TO.qm rfl (TO.q (q_extract (vs := _) rfl rfl) (TO.q (q_extract (vs := _) rfl rfl) (TO.q (q_extract (vs := _) rfl rfl) ?_)))
    refine TO.l rfl (l_alloc inf28 rfl (fun z6 => ?_))
    refine TO.l rfl (l_sb (v := (lV l1 kl1)) (vs := (lC l1 kl1)) 0 inf28 rfl rfl rfl rfl rfl rfl (by simp [putL]) ?_)
    refine TO.qa rfl (TO.qa rfl ?_)
    refine TO.sub (O' := [lI 5 l1 kl1, oI z5 25 (pC C k5), pI 23 3 C k5, oI z2 28 (lC l kl), oI z1 25 (pC p k)]) (Sub.pick [1, 1, 1, 1, 1] rfl) ?_
    refine TO.nl (T.s (T.rg ?_))
    refine TO.q (q_la 1 underlying25 rfl inf25 rfl rfl rfl) ?_
    have hk84 := fun (w1 : World) (hI : Inv w [lI 5 l1 kl1, oI z5 25 (pC C k5), pI 23 3 C k5, oI z2 28 (lC l kl), oI z1 25 (pC p k)] w1) => (haveI := tbz hI; (show PureT _ _ _ _ _ from by
        have h9 := parRd w1 C k5 (hI.atP (II := 23) (I := 3) (mG 2 rfl)) hC
        rw [eR, hcv] at h9
        exact h9))
    refine TO.l rfl (l_call ent25 (CallT.op hk84) rfl ?_)
    clear hk84
    rintro vr O' ⟨N, rfl, k6, rfl, rfl⟩
    refine TO.qm rfl (TO.q (q_extract (vs := _) rfl rfl) (TO.q (q_extract (vs := _) rfl rfl) ?_))
    refine TO.l rfl (l_alloc inf25 rfl (fun z7 => ?_))
    refine TO.l rfl (l_sb (v := (pV R k6)) (vs := (pC R k6)) 0 inf25 rfl rfl rfl rfl rfl rfl (by simp [putL]) ?_)
    refine TO.qa rfl ?_
    refine TO.sub (O' := [oI z7 25 (pC R k6), pI 23 3 R k6, lI 5 l1 kl1, oI z5 25 (pC C k5), pI 23 3 C k5, oI z2 28 (lC l kl), oI z1 25 (pC p k)]) (Sub.pick [0, 0, 0, 0, 0, 0, 0] rfl) ?_
    refine TO.nl (T.s (T.rg ?_))
    refine TO.q (q_la 0 underlying25 rfl inf25 rfl rfl rfl) ?_
    have hk89 := fun (w1 : World) (hI : Inv w [oI z7 25 (pC R k6), pI 23 3 R k6, lI 5 l1 kl1, oI z5 25 (pC C k5), pI 23 3 C k5, oI z2 28 (lC l kl), oI z1 25 (pC p k)] w1) => (haveI := tbz hI; (show PureT _ _ _ _ _ from by
        have h9 := parCo w1 R k6 (hI.atP (II := 23) (I := 3) (mG 1 rfl)) hR
        rw [eD] at h9
        exact h9))
    refine TO.l rfl (l_call ent18 (CallT.op hk89) rfl ?_)
    clear hk89
    rintro vr O' ⟨N, rfl, k7, rfl, rfl⟩
    refine TO.qm rfl (TO.q (q_extract (vs := _) rfl rfl) (TO.q (q_extract (vs := _) rfl rfl) ?_))
    refine TO.l rfl (l_alloc inf25 rfl (fun z8 => ?_))
    refine TO.l rfl (l_sb (v := (pV D k7)) (vs := (pC D k7)) 0 inf25 rfl rfl rfl rfl rfl rfl (by simp [putL]) ?_)
    refine TO.qa rfl ?_
    refine TO.sub (O' := [oI z8 25 (pC D k7), pI 23 3 D k7, oI z7 25 (pC R k6), pI 23 3 R k6, lI 5 l1 kl1, oI z5 25 (pC C k5), pI 23 3 C k5, oI z2 28 (lC l kl), oI z1 25 (pC p k)]) (Sub.pick [0, 0, 0, 0, 0, 0, 0, 0, 0] rfl) ?_
    refine TO.nl (T.s (T.rg ?_))
    refine TO.q (q_la 8 underlying25 rfl inf25 rfl rfl rfl) (TO.q (q_la 0 underlying25 rfl inf25 rfl rfl rfl) ?_)
    have hk95 := fun (w1 : World) (hI : Inv w [oI z8 25 (pC D k7), pI 23 3 D k7, oI z7 25 (pC R k6), pI 23 3 R k6, lI 5 l1 kl1, oI z5 25 (pC C k5), pI 23 3 C k5, oI z2 28 (lC l kl), oI z1 25 (pC p k)] w1) => (haveI := tbz hI; difBk w1 p k (hI.atQ h) C R D k7 (hI.atP (II := 23) (I := 3) (mG 1 rfl)) hB hD hc0 eC eR eD (by omega))
    refine TO.l rfl (l_call ent29 (CallT.op hk95) rfl ?_)
    clear hk95
    rintro vr O' ⟨N, rfl, l2, kl2, b2, e2, rfl, rfl, hbk⟩
    refine TO.qm rfl (TO.q (q_extract (vs := _) rfl rfl) (TO.q (q_extract (vs := _) rfl rfl) (TO.q (q_extract (vs := _) rfl rfl) ?_)))
    refine TO.l rfl (l_alloc inf28 rfl (fun z9 => ?_))
    refine TO.l rfl (l_sb (v := (lV l2 kl2)) (vs := (lC l2 kl2)) 0 inf28 rfl rfl rfl rfl rfl rfl (by simp [putL]) ?_)
    refine TO.qa rfl (TO.qa rfl ?_)
    refine TO.sub (O' := [lI 5 l2 kl2, oI z8 25 (pC D k7), pI 23 3 D k7, oI z7 25 (pC R k6), pI 23 3 R k6, lI 5 l1 kl1, oI z5 25 (pC C k5), pI 23 3 C k5, oI z2 28 (lC l kl), oI z1 25 (pC p k)]) (Sub.pick [1, 1, 1, 1, 1, 1, 1, 1, 1, 1] rfl) ?_
    refine TO.nl (T.s (T.rg ?_))
    refine TO.qm rfl (TO.q (QT.toB (q_eql rfl rfl) (decide_eq_true rfl)) (TO.qm rfl ?_))
    refine TO.gd rfl rfl rfl (LT.oq rfl rfl (q_move rfl) ?_)
    refine TO.q (q_pick1 rfl rfl) (TO.qm rfl ?_)
    refine TO.gd rfl rfl rfl (LT.oq rfl rfl (q_move rfl) ?_)
    refine TO.gd rfl rfl rfl (LT.oq rfl rfl (QT.toB (q_eql rfl rfl) (decide_eq_true rfl)) ?_)
    refine TO.q (q_pick1 rfl rfl) (TO.qm rfl ?_)
    refine TO.gd rfl rfl rfl (LT.oq rfl rfl (q_move rfl) ?_)
    refine TO.gd rfl rfl rfl (LT.oq rfl rfl (q_eql rfl rfl) ?_)
    by_cases h111 : ((coE R : Nat) : Int) = 4
    · refine TO.gd rfl rfl rfl (LT.oq rfl rfl (QT.toB (q_move rfl) (decide_eq_true h111)) ?_)
      refine TO.pd rfl rfl ?_
      refine TO.pd rfl rfl ?_
      refine TO.pd rfl rfl ?_
      refine TO.pd rfl rfl ?_
      refine TO.pd rfl rfl ?_
      refine TO.pd rfl rfl ?_
      refine TO.pd rfl rfl ?_
      refine TO.pd rfl rfl ?_
      refine TO.pd rfl rfl ?_
      refine TO.pd rfl rfl ?_
      refine TO.gd rfl rfl rfl (LT.oq rfl rfl (q_pick1 rfl rfl) ?_)
      refine TO.q (q_pick1 rfl rfl) (TO.qa rfl ?_)
      refine TO.nl (T.ret (Res.drop ?_))
      refine Res.one (.bool true) Tryd.results7 rfl ?_
      exact ⟨[], Sub.of (List.nil_sublist _), rfl, rfl⟩
    refine TO.gd rfl rfl rfl (LT.oq rfl rfl (QT.toB (q_move rfl) (decide_eq_false h111)) ?_)
    refine TO.gd rfl rfl rfl (LT.oq rfl rfl (q_move rfl) ?_)
    refine TO.gd rfl rfl rfl (LT.oq rfl rfl (QT.toB (q_eql rfl rfl) (decide_eq_true (by have := coE_two hrv; omega))) ?_)
    refine TO.gd rfl rfl rfl (LT.oq rfl rfl (q_move rfl) ?_)
    refine TO.gd rfl rfl rfl (LT.oq rfl rfl (q_move rfl) ?_)
    refine TO.gd rfl rfl rfl (LT.oq rfl rfl (QT.toB (q_eql rfl rfl) (decide_eq_true (by have := coE_two hrv; have := hbk (by omega); omega))) ?_)
    refine TO.gd rfl rfl rfl (LT.oq rfl rfl (q_pick1 rfl rfl) ?_)
    refine TO.gd rfl rfl rfl (LT.oq rfl rfl (q_move rfl) ?_)
    refine TO.gd rfl rfl rfl (LT.oq rfl rfl (q_move rfl) ?_)
    refine TO.gd rfl rfl rfl (LT.oq rfl rfl (q_not rfl) ?_)
    refine TO.gd rfl rfl rfl (LT.oq rfl rfl (q_pick1 rfl rfl) ?_)
    refine TO.gd rfl rfl rfl (LT.oq rfl rfl (q_pick0 rfl rfl) ?_)
    refine TO.q (q_pick1 rfl rfl) (TO.qa rfl ?_)
    refine TO.nl (T.ret (Res.drop ?_))
    refine Res.one (.bool (!b2)) Tryd.results7 rfl ?_
    exact ⟨[], Sub.of (List.nil_sublist _), congrArg Value.bool (by rw [(hbk (by have := coE_two hrv; omega)).1]; rfl), rfl⟩
  refine TO.gd rfl rfl rfl (LT.oq rfl rfl (QT.toB (q_eql rfl rfl) (decide_eq_false h68)) ?_)
  refine TO.gd rfl rfl rfl (LT.oq rfl rfl (q_move rfl) ?_)
  refine TO.pd rfl rfl ?_
  refine TO.pd rfl rfl ?_
  refine TO.pd rfl rfl ?_
  refine TO.gd rfl rfl rfl (LT.oq rfl rfl (q_pick0 rfl rfl) ?_)
  refine TO.q (q_pick0 rfl rfl) ?_
  refine TO.nl ?_
  refine T.cond0 rfl ?_
  refine T.skip (T.s (T.rg ?_))
  refine TO.q (q_la 3 underlying25 rfl inf25 rfl rfl rfl) (TO.q (q_la 0 underlying25 rfl inf25 rfl rfl rfl) ?_)
  have hk78 := fun (w1 : World) (hI : Inv w [oI z5 25 (pC C k5), pI 23 3 C k5, oI z2 28 (lC l kl), oI z1 25 (pC p k)] w1) => (haveI := tbz hI; difCo w1 p k (hI.atQ h) C k5 (hI.atP (II := 23) (I := 3) (mG 1 rfl)) hB hC hc0 eC (by omega))
  refine TO.l rfl (l_call ent29 (CallT.op hk78) rfl ?_)
  clear hk78
  rintro vr O' ⟨N, rfl, l1, kl1, rfl, rfl⟩
  refine TO.qm rfl (TO.q (q_extract (vs := _) rfl rfl) (TO.q (q_extract (vs := _) rfl rfl) (TO.q (q_extract (vs := _) rfl rfl) ?_)))
  refine TO.l rfl (l_alloc inf28 rfl (fun z10 => ?_))
  refine TO.l rfl (l_sb (v := (lV l1 kl1)) (vs := (lC l1 kl1)) 0 inf28 rfl rfl rfl rfl rfl rfl (by simp [putL]) ?_)
  refine TO.qa rfl (TO.qa rfl ?_)
  refine TO.sub (O' := [lI 5 l1 kl1, oI z5 25 (pC C k5), pI 23 3 C k5, oI z2 28 (lC l kl), oI z1 25 (pC p k)]) (Sub.pick [1, 1, 1, 1, 1] rfl) ?_
  refine TO.nl (T.s (T.rg ?_))
  refine TO.q (q_la 1 underlying25 rfl inf25 rfl rfl rfl) ?_
  have hk84 := fun (w1 : World) (hI : Inv w [lI 5 l1 kl1, oI z5 25 (pC C k5), pI 23 3 C k5, oI z2 28 (lC l kl), oI z1 25 (pC p k)] w1) => (haveI := tbz hI; (show PureT _ _ _ _ _ from by
      have h9 := parRd w1 C k5 (hI.atP (II := 23) (I := 3) (mG 2 rfl)) hC
      rw [eR, hcv] at h9
      exact h9))
  refine TO.l rfl (l_call ent25 (CallT.op hk84) rfl ?_)
  clear hk84
  rintro vr O' ⟨N, rfl, k6, rfl, rfl⟩
  refine TO.qm rfl (TO.q (q_extract (vs := _) rfl rfl) (TO.q (q_extract (vs := _) rfl rfl) ?_))
  refine TO.l rfl (l_alloc inf25 rfl (fun z11 => ?_))
  refine TO.l rfl (l_sb (v := (pV R k6)) (vs := (pC R k6)) 0 inf25 rfl rfl rfl rfl rfl rfl (by simp [putL]) ?_)
  refine TO.qa rfl ?_
  refine TO.sub (O' := [oI z11 25 (pC R k6), pI 23 3 R k6, lI 5 l1 kl1, oI z5 25 (pC C k5), pI 23 3 C k5, oI z2 28 (lC l kl), oI z1 25 (pC p k)]) (Sub.pick [0, 0, 0, 0, 0, 0, 0] rfl) ?_
  refine TO.nl (T.s (T.rg ?_))
  refine TO.q (q_la 0 underlying25 rfl inf25 rfl rfl rfl) ?_
  have hk89 := fun (w1 : World) (hI : Inv w [oI z11 25 (pC R k6), pI 23 3 R k6, lI 5 l1 kl1, oI z5 25 (pC C k5), pI 23 3 C k5, oI z2 28 (lC l kl), oI z1 25 (pC p k)] w1) => (haveI := tbz hI; (show PureT _ _ _ _ _ from by
      have h9 := parCo w1 R k6 (hI.atP (II := 23) (I := 3) (mG 1 rfl)) hR
      rw [eD] at h9
      exact h9))
  refine TO.l rfl (l_call ent18 (CallT.op hk89) rfl ?_)
  clear hk89
  rintro vr O' ⟨N, rfl, k7, rfl, rfl⟩
  refine TO.qm rfl (TO.q (q_extract (vs := _) rfl rfl) (TO.q (q_extract (vs := _) rfl rfl) ?_))
  refine TO.l rfl (l_alloc inf25 rfl (fun z12 => ?_))
  refine TO.l rfl (l_sb (v := (pV D k7)) (vs := (pC D k7)) 0 inf25 rfl rfl rfl rfl rfl rfl (by simp [putL]) ?_)
  refine TO.qa rfl ?_
  refine TO.sub (O' := [oI z12 25 (pC D k7), pI 23 3 D k7, oI z11 25 (pC R k6), pI 23 3 R k6, lI 5 l1 kl1, oI z5 25 (pC C k5), pI 23 3 C k5, oI z2 28 (lC l kl), oI z1 25 (pC p k)]) (Sub.pick [0, 0, 0, 0, 0, 0, 0, 0, 0] rfl) ?_
  refine TO.nl (T.s (T.rg ?_))
  refine TO.q (q_la 8 underlying25 rfl inf25 rfl rfl rfl) (TO.q (q_la 0 underlying25 rfl inf25 rfl rfl rfl) ?_)
  have hk95 := fun (w1 : World) (hI : Inv w [oI z12 25 (pC D k7), pI 23 3 D k7, oI z11 25 (pC R k6), pI 23 3 R k6, lI 5 l1 kl1, oI z5 25 (pC C k5), pI 23 3 C k5, oI z2 28 (lC l kl), oI z1 25 (pC p k)] w1) => (haveI := tbz hI; difBk w1 p k (hI.atQ h) C R D k7 (hI.atP (II := 23) (I := 3) (mG 1 rfl)) hB hD hc0 eC eR eD (by omega))
  refine TO.l rfl (l_call ent29 (CallT.op hk95) rfl ?_)
  clear hk95
  rintro vr O' ⟨N, rfl, l2, kl2, b2, e2, rfl, rfl, hbk⟩
  refine TO.qm rfl (TO.q (q_extract (vs := _) rfl rfl) (TO.q (q_extract (vs := _) rfl rfl) (TO.q (q_extract (vs := _) rfl rfl) ?_)))
  refine TO.l rfl (l_alloc inf28 rfl (fun z13 => ?_))
  refine TO.l rfl (l_sb (v := (lV l2 kl2)) (vs := (lC l2 kl2)) 0 inf28 rfl rfl rfl rfl rfl rfl (by simp [putL]) ?_)
  refine TO.qa rfl (TO.qa rfl ?_)
  refine TO.sub (O' := [lI 5 l2 kl2, oI z12 25 (pC D k7), pI 23 3 D k7, oI z11 25 (pC R k6), pI 23 3 R k6, lI 5 l1 kl1, oI z5 25 (pC C k5), pI 23 3 C k5, oI z2 28 (lC l kl), oI z1 25 (pC p k)]) (Sub.pick [1, 1, 1, 1, 1, 1, 1, 1, 1, 1] rfl) ?_
  refine TO.nl (T.s (T.rg ?_))
  refine TO.qm rfl (TO.q (QT.toB (q_eql rfl rfl) (decide_eq_true rfl)) (TO.qm rfl ?_))
  refine TO.gd rfl rfl rfl (LT.oq rfl rfl (q_move rfl) ?_)
  refine TO.q (q_pick1 rfl rfl) (TO.qm rfl ?_)
  refine TO.gd rfl rfl rfl (LT.oq rfl rfl (q_move rfl) ?_)
  refine TO.gd rfl rfl rfl (LT.oq rfl rfl (QT.toB (q_eql rfl rfl) (decide_eq_true rfl)) ?_)
  refine TO.q (q_pick1 rfl rfl) (TO.qm rfl ?_)
  refine TO.gd rfl rfl rfl (LT.oq rfl rfl (q_move rfl) ?_)
  refine TO.gd rfl rfl rfl (LT.oq rfl rfl (q_eql rfl rfl) ?_)
  by_cases h111 : ((coE R : Nat) : Int) = 4
  · refine TO.gd rfl rfl rfl (LT.oq rfl rfl (QT.toB (q_move rfl) (decide_eq_true h111)) ?_)
    refine TO.pd rfl rfl ?_
    refine TO.pd rfl rfl ?_
    refine TO.pd rfl rfl ?_
    refine TO.pd rfl rfl ?_
    refine TO.pd rfl rfl ?_
    refine TO.pd rfl rfl ?_
    refine TO.pd rfl rfl ?_
    refine TO.pd rfl rfl ?_
    refine TO.pd rfl rfl ?_
    refine TO.pd rfl rfl ?_
    refine TO.gd rfl rfl rfl (LT.oq rfl rfl (q_pick1 rfl rfl) ?_)
    refine TO.q (q_pick1 rfl rfl) (TO.qa rfl ?_)
    refine TO.nl (T.ret (Res.drop ?_))
    refine Res.one (.bool true) Tryd.results7 rfl ?_
    exact ⟨[], Sub.of (List.nil_sublist _), rfl, rfl⟩
  refine TO.gd rfl rfl rfl (LT.oq rfl rfl (QT.toB (q_move rfl) (decide_eq_false h111)) ?_)
  refine TO.gd rfl rfl rfl (LT.oq rfl rfl (q_move rfl) ?_)
  refine TO.gd rfl rfl rfl (LT.oq rfl rfl (QT.toB (q_eql rfl rfl) (decide_eq_true (by have := coE_two hrv; omega))) ?_)
  refine TO.gd rfl rfl rfl (LT.oq rfl rfl (q_move rfl) ?_)
  refine TO.gd rfl rfl rfl (LT.oq rfl rfl (q_move rfl) ?_)
  refine TO.gd rfl rfl rfl (LT.oq rfl rfl (QT.toB (q_eql rfl rfl) (decide_eq_true (by have := coE_two hrv; have := hbk (by omega); omega))) ?_)
  refine TO.gd rfl rfl rfl (LT.oq rfl rfl (q_pick1 rfl rfl) ?_)
  refine TO.gd rfl rfl rfl (LT.oq rfl rfl (q_move rfl) ?_)
  refine TO.gd rfl rfl rfl (LT.oq rfl rfl (q_move rfl) ?_)
  refine TO.gd rfl rfl rfl (LT.oq rfl rfl (q_not rfl) ?_)
  refine TO.gd rfl rfl rfl (LT.oq rfl rfl (q_pick1 rfl rfl) ?_)
  refine TO.gd rfl rfl rfl (LT.oq rfl rfl (q_pick0 rfl rfl) ?_)
  refine TO.q (q_pick1 rfl rfl) (TO.qa rfl ?_)
  refine TO.nl (T.ret (Res.drop ?_))
  refine Res.one (.bool (!b2)) Tryd.results7 rfl ?_
  exact ⟨[], Sub.of (List.nil_sublist _), congrArg Value.bool (by rw [(hbk (by have := coE_two hrv; omega)).1]; rfl), rfl⟩
end Go.Proofs.YtnikhiohindggaaDoor

