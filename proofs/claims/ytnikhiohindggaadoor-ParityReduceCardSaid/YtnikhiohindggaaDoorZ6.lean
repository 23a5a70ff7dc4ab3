/- Contracts of functions of the program (Z6): what each call answers and that it leaves memory as it was. Conditions: those each theorem names. -/
import Derived.Test.YtnikhiohindggaaDoorCoreK
import Derived.Test.YtnikhiohindggaaDoorYs
import Derived.Test.YtnikhiohindggaaDoorZ4
set_option linter.unusedSectionVars false
set_option linter.unusedSimpArgs false
set_option linter.unusedVariables false
set_option linter.unnecessarySimpa false
set_option maxHeartbeats 8000000
set_option maxRecDepth 20000
namespace Go.Proofs.YtnikhiohindggaaDoor
open Go.Lx Go.RowKit _root_.Go.Proofs.Tryd
theorem reduceW (w : World) [Tab Tryd.prog w] (p : Par) (k : DK) (h : AtP w p k) (hB : ParC p) (l : La) (kl : LK) (hl : AtL w l kl) (hp8 : ∀ x ∈ l.pre, x < 256) (hl8 : ∀ x ∈ l.loop, x < 256) (st : Nat) (hst : st < 256) :
    PureT Tryd.prog 6 [pV p k, lV l kl, .int .u8 ((st : Nat) : Int)] w fun v N => v = .bool true ∧ N = [] := by
  refine CallT.enter func6 rfl ntmps6 rfl ?_
  obtain ⟨R, eR⟩ : ∃ zz, rdV p = zz := ⟨_, rfl⟩
  have hR : ParC R := eR ▸ rdV_c hB
  have hRf := hR.f; have hBf := hB.f; have hBn := hB.n
  refine T.s (T.rg ?_)
  refine TO.l rfl (l_box (v := (pV p k)) (cs := (pC p k)) rfl rfl (fun z1 => ?_))
  refine TO.l rfl (l_box (v := (lV l kl)) (cs := (lC l kl)) rfl rfl (fun z2 => ?_))
  refine TO.qa rfl ?_
  refine TO.nl (T.s (T.s (T.rg ?_)))
  refine TO.q (q_la 1 underlying25 rfl inf25 rfl rfl rfl) ?_
  refine TO.l rfl (l_buildSlice (m := 1) (parts := [(0, _)]) (cs := (pC p k)) underlying59 inf25 (by decide) (by kernel_rfl) rfl (fun z3 => ?_))
  have hk20 := fun (w1 : World) (hI : Inv w [rowI (some ⟨z3, 0, none⟩) 1 25 4 (pC p k), oI z2 28 (lC l kl), oI z1 25 (pC p k)] w1) => (haveI := tbz hI; (show PureT _ _ _ _ _ from by
      have h9 := longPF w1 (some ⟨z3, 0, none⟩) 1 [(p, k)] (hI.slOf (cs := parsC [(p, k)]) (mG 0 rfl)) (by intro q9 hq; simp only [List.mem_cons, List.not_mem_nil, or_false] at hq; rcases hq with rfl <;> first | exact hI.atQ h) (by show 1 < 1000000; decide) (by intro q9 hq; simp only [List.mem_cons, List.not_mem_nil, or_false] at hq; rcases hq with rfl <;> first | exact hB)
      rw [show ([(p, k)] : List (Par × DK)).any (fun q => Lx.longP q.1) = Lx.longP p by simp] at h9
      exact h9))
  refine TO.l rfl (l_call ent10 (CallT.op hk20) rfl ?_)
  clear hk20
  rintro vr O' ⟨N, rfl, rfl, rfl⟩
  by_cases h21 : Lx.longP p = true
  · refine TO.q (QT.toB (q_move rfl) (h21)) ?_
    refine TO.pd rfl rfl ?_
    refine TO.pd rfl rfl ?_
    refine TO.pd rfl rfl ?_
    refine TO.q (q_pick1 rfl rfl) (TO.qm rfl ?_)
    refine TO.pd rfl rfl ?_
    refine TO.pd rfl rfl ?_
    refine TO.q (q_pick1 rfl rfl) ?_
    refine TO.nl ?_
    refine T.cond1 rfl ?_
    refine T.s (T.rg ?_)
    have hk30 := fun (w1 : World) (hI : Inv w [rowI (some ⟨z3, 0, none⟩) 1 25 4 (pC p k), oI z2 28 (lC l kl), oI z1 25 (pC p k)] w1) => (haveI := tbz hI; awakeC w1)
    refine TO.l rfl (l_call ent12 (CallT.op hk30) rfl ?_)
    clear hk30
    rintro vr O' ⟨N, rfl, rfl, rfl⟩
    refine TO.qa rfl ?_
    refine TO.nl (T.ret (Res.drop ?_))
    refine Res.one (.bool true) Tryd.results6 rfl ?_
    exact ⟨[], Sub.of (List.nil_sublist _), rfl, rfl⟩
  refine TO.q (QT.toB (q_move rfl) (Bool.eq_false_iff.2 h21)) ?_
  refine TO.gd rfl rfl rfl (LT.oq rfl rfl (q_la 1 underlying28 rfl inf28 rfl rfl rfl) ?_)
  refine TO.gd rfl rfl rfl (l_buildSlice (m := 1) (parts := [(0, _)]) (cs := (lC l kl)) underlying60 inf28 (by decide) (by kernel_rfl) rfl (fun z4 => ?_))
  have hk24 := fun (w1 : World) (hI : Inv w [rowI (some ⟨z4, 0, none⟩) 1 28 2 (lC l kl), rowI (some ⟨z3, 0, none⟩) 1 25 4 (pC p k), oI z2 28 (lC l kl), oI z1 25 (pC p k)] w1) => (haveI := tbz hI; (show PureT _ _ _ _ _ from by
      have h9 := longLF w1 (some ⟨z4, 0, none⟩) 1 [⟨l, kl.pb, kl.pc, kl.lb, kl.lc⟩] (hI.slOf (cs := lasC [⟨l, kl.pb, kl.pc, kl.lb, kl.lc⟩]) (mG 0 rfl)) (by show 1 < 9223372036854775807; decide)
      rw [show ([⟨l, kl.pb, kl.pc, kl.lb, kl.lc⟩] : List LaRef).any (fun q => Lx.longL q.l) = Lx.longL l by simp] at h9
      exact h9))
  refine TO.gd rfl rfl rfl (l_call ent11 (CallT.op hk24) rfl ?_)
  clear hk24
  rintro vr O' ⟨N, rfl, rfl, rfl⟩
  refine TO.q (q_pick0 rfl rfl) ?_
  by_cases h26 : Lx.longL l = true
  · refine TO.q (QT.toB (q_move rfl) (h26)) ?_
    refine TO.pd rfl rfl ?_
    refine TO.pd rfl rfl ?_
    refine TO.q (q_pick1 rfl rfl) ?_
    refine TO.nl ?_
    refine T.cond1 rfl ?_
    refine T.s (T.rg ?_)
    have hk30 := fun (w1 : World) (hI : Inv w [rowI (some ⟨z4, 0, none⟩) 1 28 2 (lC l kl), rowI (some ⟨z3, 0, none⟩) 1 25 4 (pC p k), oI z2 28 (lC l kl), oI z1 25 (pC p k)] w1) => (haveI := tbz hI; awakeC w1)
    refine TO.l rfl (l_call ent12 (CallT.op hk30) rfl ?_)
    clear hk30
    rintro vr O' ⟨N, rfl, rfl, rfl⟩
    refine TO.qa rfl ?_
    refine TO.nl (T.ret (Res.drop ?_))
    refine Res.one (.bool true) Tryd.results6 rfl ?_
    exact ⟨[], Sub.of (List.nil_sublist _), rfl, rfl⟩
  refine TO.q (QT.toB (q_move rfl) (Bool.eq_false_iff.2 h26)) ?_
  have hk27 := fun (w1 : World) (hI : Inv w [rowI (some ⟨z4, 0, none⟩) 1 28 2 (lC l kl), rowI (some ⟨z3, 0, none⟩) 1 25 4 (pC p k), oI z2 28 (lC l kl), oI z1 25 (pC p k)] w1) => (haveI := tbz hI; awakeC w1)
  refine TO.gd rfl rfl rfl (l_call ent12 (CallT.op hk27) rfl ?_)
  clear hk27
  rintro vr O' ⟨N, rfl, rfl, rfl⟩
  refine TO.gd rfl rfl rfl (LT.oq rfl rfl (q_not rfl) ?_)
  refine TO.q (q_pick0 rfl rfl) ?_
  refine TO.nl ?_
  refine T.cond0 rfl ?_
  refine T.skip (T.s (T.rg ?_))
  refine TO.q (q_la 3 underlying25 rfl inf25 rfl rfl rfl) ?_
  have hk33 := fun (w1 : World) (hI : Inv w [rowI (some ⟨z4, 0, none⟩) 1 28 2 (lC l kl), rowI (some ⟨z3, 0, none⟩) 1 25 4 (pC p k), oI z2 28 (lC l kl), oI z1 25 (pC p k)] w1) => (haveI := tbz hI; (show PureT _ _ _ _ _ from by
      have h9 := parRd w1 p k (hI.atQ h) hB
      rw [eR] at h9
      exact h9))
  refine TO.l rfl (l_call ent25 (CallT.op hk33) rfl ?_)
  clear hk33
  rintro vr O' ⟨N, rfl, k5, rfl, rfl⟩
  refine TO.qm rfl (TO.q (q_extract (vs := _) rfl rfl) (TO.q (q_extract (vs := _) rfl rfl) ?_))
  refine TO.l rfl (l_alloc inf25 rfl (fun z5 => ?_))
  refine TO.l rfl (l_sb (v := (pV R k5)) (vs := (pC R k5)) 0 inf25 rfl rfl rfl rfl rfl rfl (by simp [putL]) ?_)
  refine TO.qa rfl ?_
  refine TO.sub (O' := [oI z5 25 (pC R k5), pI 23 3 R k5, oI z2 28 (lC l kl), oI z1 25 (pC p k)]) (Sub.pick [0, 0, 2, 2] rfl) ?_
  refine TO.nl (T.s (T.s (T.rg ?_)))
  refine TO.qm rfl (TO.q (q_neq rfl rfl) ?_)
  refine TO.nl ?_
  refine T.condP rfl (fun hc => ?_) (fun hc => ?_)
  · have hlt37 : checkP p ≠ 0 := by omega
    have hRn : R = noP := by rw [← eR]; exact rdV_no (by omega)
    refine T.s (T.rg ?_)
    refine TO.q (q_fa underlying25 rfl inf22 rfl rfl) (TO.q (q_lb 0 underlying22 rfl rfl rfl rfl) (TO.q (q_len underlying22 rfl) (TO.q (q_eql rfl rfl) ?_)))
    refine TO.qa rfl ?_
    refine TO.nl (T.ret (Res.drop ?_))
    refine Res.one (.bool (decide ((R.next.length : Int) = 0))) Tryd.results6 rfl ?_
    exact ⟨[], Sub.of (List.nil_sublist _), congrArg Value.bool (decide_eq_true (by rw [hRn]; rfl)), rfl⟩
  have hge37 : ¬ checkP p ≠ 0 := by omega
  have hL : LaB l := longL_lab h26 hp8 hl8
  have hp0 : checkP p = 0 := by omega
  have hpv := checkP_zero.1 hp0
  have hn0 : 0 < p.next.length := by have := hpv.st; omega
  have hRc : checkP R = 0 := checkP_zero.2 (eR ▸ rdV_valid hp0)
  have hRt : rdV R = R := by rw [← eR]; exact rdV_twice hp0
  obtain ⟨_, hRs, hRx, hRl, hRm⟩ := rdV_parts hp0
  have hRle : ∀ (a : Nat) (h1 : a < R.prio.length) (h2 : a < p.prio.length), R.prio[a] ≤ p.prio[a] := fun a h1 h2 => by
    have h9 := rdV_le hp0 (s := a) (by rw [← hRm, eR]; exact h1)
    rw [eR, List.getD_eq_getElem?_getD, List.getD_eq_getElem?_getD, List.getElem?_eq_getElem h1, List.getElem?_eq_getElem h2] at h9
    exact h9
  have hrun := rdV_runS hp0 (s := ((st % p.next.length : Nat) : Int)) (by omega) (by have := Nat.mod_lt st hn0; omega) l
  rw [eR] at hRs hRx hRl hRm hrun
  refine T.skip (T.s (T.rg ?_))
  refine TO.q (q_la 0 underlying25 rfl inf25 rfl rfl rfl) ?_
  have hk44 := fun (w1 : World) (hI : Inv w [oI z5 25 (pC R k5), pI 23 3 R k5, oI z2 28 (lC l kl), oI z1 25 (pC p k)] w1) => (haveI := tbz hI; (show PureT _ _ _ _ _ from by
      have h9 := parRd w1 R k5 (hI.atP (II := 23) (I := 3) (mG 1 rfl)) hR
      rw [hRt, hRc] at h9
      exact h9))
  refine TO.l rfl (l_call ent25 (CallT.op hk44) rfl ?_)
  clear hk44
  rintro vr O' ⟨N, rfl, k6, rfl, rfl⟩
  refine TO.qm rfl (TO.q (q_extract (vs := _) rfl rfl) (TO.q (q_extract (vs := _) rfl rfl) ?_))
  refine TO.l rfl (l_alloc inf25 rfl (fun z6 => ?_))
  refine TO.l rfl (l_sb (v := (pV R k6)) (vs := (pC R k6)) 0 inf25 rfl rfl rfl rfl rfl rfl (by simp [putL]) ?_)
  refine TO.qa rfl ?_
  refine TO.sub (O' := [oI z6 25 (pC R k6), pI 23 3 R k6, oI z5 25 (pC R k5), pI 23 3 R k5, oI z2 28 (lC l kl), oI z1 25 (pC p k)]) (Sub.pick [0, 0, 0, 0, 0, 0] rfl) ?_
  refine TO.nl (T.s (T.s (T.rg ?_)))
  refine TO.qm rfl (TO.q (QT.toB (q_neq rfl rfl) (decide_eq_false (fun h9 => h9 rfl))) (TO.qm rfl ?_))
  refine TO.gd rfl rfl rfl (LT.oq rfl rfl (q_la 0 underlying25 rfl inf25 rfl rfl rfl) ?_)
  refine TO.gd rfl rfl rfl (LT.oq rfl rfl (q_la 2 underlying25 rfl inf25 rfl rfl rfl) ?_)
  have hk52 := fun (w1 : World) (hI : Inv w [oI z6 25 (pC R k6), pI 23 3 R k6, oI z5 25 (pC R k5), pI 23 3 R k5, oI z2 28 (lC l kl), oI z1 25 (pC p k)] w1) => (haveI := tbz hI; (show PureT _ _ _ _ _ from by
      have h9 := equalPar w1 R k6 (hI.atP (II := 23) (I := 3) (mG 1 rfl)) R k5 (hI.atP (II := 23) (I := 3) (mG 3 rfl)) hR
      rw [decide_eq_true rfl] at h9
      exact h9))
  refine TO.gd rfl rfl rfl (l_call ent22 (CallT.op hk52) rfl ?_)
  clear hk52
  rintro vr O' ⟨N, rfl, rfl, rfl⟩
  refine TO.gd rfl rfl rfl (LT.oq rfl rfl (q_not rfl) ?_)
  refine TO.q (q_pick0 rfl rfl) (TO.qm rfl ?_)
  refine TO.gd rfl rfl rfl (LT.oq rfl rfl (q_fa underlying25 rfl inf23 rfl rfl) ?_)
  refine TO.gd rfl rfl rfl (LT.oq rfl rfl (q_lb 2 underlying23 rfl rfl rfl rfl) ?_)
  refine TO.gd rfl rfl rfl (LT.oq rfl rfl (q_len underlying23 rfl) ?_)
  refine TO.gd rfl rfl rfl (LT.oq rfl rfl (q_fa underlying25 rfl inf23 rfl rfl) ?_)
  refine TO.gd rfl rfl rfl (LT.oq rfl rfl (q_lb 5 underlying23 rfl rfl rfl rfl) ?_)
  refine TO.gd rfl rfl rfl (LT.oq rfl rfl (q_len underlying23 rfl) ?_)
  refine TO.gd rfl rfl rfl (LT.oq rfl rfl (QT.toB (q_neq rfl rfl) (decide_eq_false (by omega))) ?_)
  refine TO.q (q_pick0 rfl rfl) (TO.qm rfl ?_)
  refine TO.gd rfl rfl rfl (LT.oq rfl rfl (q_fa underlying25 rfl inf22 rfl rfl) ?_)
  refine TO.gd rfl rfl rfl (LT.oq rfl rfl (q_lb 2 underlying22 rfl rfl rfl rfl) ?_)
  refine TO.gd rfl rfl rfl (LT.oq rfl rfl (q_fa underlying25 rfl inf22 rfl rfl) ?_)
  refine TO.gd rfl rfl rfl (LT.oq rfl rfl (q_lb 5 underlying22 rfl rfl rfl rfl) ?_)
  have hk69 := fun (w1 : World) (hI : Inv w [oI z6 25 (pC R k6), pI 23 3 R k6, oI z5 25 (pC R k5), pI 23 3 R k5, oI z2 28 (lC l kl), oI z1 25 (pC p k)] w1) => (haveI := tbz hI; (show PureT _ _ _ _ _ from by
      have h9 := equalRows w1 k5.nb k.nb k5.nc k.nc (vals k5.qs) (vals k.qs) R.next p.next (hI.atP (II := 23) (I := 3) (mG 3 rfl)).outer (hI.atP (II := 23) (I := 3) (mG 3 rfl)).rows (hI.atQ h).outer (hI.atQ h).rows (by have := hR.n; omega) (fun r hr => by have := hR.r r hr; omega)
      rw [decide_eq_true hRx] at h9
      exact h9))
  refine TO.gd rfl rfl rfl (l_call ent36 (CallT.op hk69) rfl ?_)
  clear hk69
  rintro vr O' ⟨N, rfl, rfl, rfl⟩
  refine TO.gd rfl rfl rfl (LT.oq rfl rfl (q_not rfl) ?_)
  refine TO.q (q_pick0 rfl rfl) (TO.qm rfl ?_)
  refine TO.gd rfl rfl rfl (LT.oq rfl rfl (q_fa underlying25 rfl inf3 rfl rfl) ?_)
  refine TO.gd rfl rfl rfl (LT.oq rfl rfl (q_lb 2 underlying3 rfl rfl rfl rfl) ?_)
  refine TO.gd rfl rfl rfl (LT.oq rfl rfl (q_fa underlying25 rfl inf3 rfl rfl) ?_)
  refine TO.gd rfl rfl rfl (LT.oq rfl rfl (q_lb 5 underlying3 rfl rfl rfl rfl) ?_)
  refine TO.gd rfl rfl rfl (LT.oq rfl rfl (QT.toB (q_neq rfl rfl) (decide_eq_false (fun h9 => h9 hRs))) ?_)
  refine TO.q (q_pick0 rfl rfl) (TO.qm rfl ?_)
  refine TO.gd rfl rfl rfl (LT.oq rfl rfl (q_fa underlying25 rfl inf22 rfl rfl) ?_)
  refine TO.gd rfl rfl rfl (LT.oq rfl rfl (q_lb 5 underlying22 rfl rfl rfl rfl) ?_)
  refine TO.gd rfl rfl rfl (LT.oq rfl rfl (q_len underlying22 rfl) ?_)
  refine TO.gd rfl rfl rfl (LT.oq rfl rfl (QT.toB (q_eql rfl rfl) (decide_eq_false (by omega))) ?_)
  refine TO.q (q_pick0 rfl rfl) ?_
  refine TO.sub (O' := [oI z5 25 (pC R k5), pI 23 3 R k5, oI z2 28 (lC l kl), oI z1 25 (pC p k)]) (Sub.pick [2, 2, 2, 2] rfl) ?_
  refine TO.nl ?_
  refine T.cond0 rfl ?_
  refine T.skip (T.s (T.rg ?_))
  refine TO.qa rfl (TO.qa rfl ?_)
  refine TO.nl (T.s (T.s (T.rg ?_)))
  refine TO.qa rfl ?_
  refine TO.nl (T.block ?_)
  refine T.loop (fun (a : Nat) ρ O => ∃ (m n : Int), O = [oI z5 25 (pC R k5), pI 23 3 R k5, oI z2 28 (lC l kl), oI z1 25 (pC p k)] ∧ a ≤ R.prio.length ∧ n ≤ m ∧ Heads [(0, (pV p k)), (1, (lV l kl)), (2, .int .u8 ((st : Nat) : Int)), (3, (.pointer (some ⟨z1, 0, none⟩))), (4, (.pointer (some ⟨z2, 0, none⟩))), (6, .bool false), (7, (.pointer (some ⟨z5, 0, none⟩))), (8, .int .i64 (checkP p : Int)), (9, (.pointer (some ⟨z6, 0, none⟩))), (10, .int .i64 ((0 : Nat) : Int)), (11, .int .i64 m), (12, .int .i64 n), (13, .int .i64 ((a : Nat) : Int))] ρ) (fun a => R.prio.length - a) 0 ?_ ?_
  · exact ⟨0, 0, rfl, Nat.zero_le _, Int.le_refl _, ⟨rfl, rfl, rfl, rfl, rfl, rfl, rfl, rfl, rfl, rfl, rfl, rfl, rfl, trivial⟩⟩
  rintro a ρ O ⟨m, n, rfl, ha, hmn, hH⟩
  obtain ⟨ρ0, rfl⟩ := hH.elim
  clear hH
  refine T.s (T.s (T.rg ?_))
  refine TO.qm rfl (TO.q (q_fa underlying25 rfl inf23 rfl rfl) (TO.q (q_lb 0 underlying23 rfl rfl rfl rfl) (TO.q (q_len underlying23 rfl) ?_)))
  refine TO.q (q_lss rfl rfl) ?_
  refine TO.nl ?_
  refine T.condP rfl (fun hc => ?_) (fun hc => ?_)
  · have hlt89 : a < R.prio.length := by omega
    refine T.skip (T.s (T.block ?_))
    refine T.draws _ [(0, 0), (1, 0), (2, 0), (3, 0), (4, 0), (5, 0), (6, 0), (7, 0), (8, 0), (9, 0), (10, 0), (11, 0), (12, 0), (13, 0), (14, 0), (15, 0)] mixed (drawF_ok (by kernel_rfl)) (Sub.of (List.Sublist.refl _)) (fun _ _ _ h => h) ?_
    refine DO.q rfl (q_move rfl) (DO.q rfl (q_fa underlying25 rfl inf23 rfl rfl) (DO.q rfl (q_lb 3 underlying23 rfl rfl rfl rfl) (DO.q rfl (q_move rfl) ?_)))
    refine DO.q rfl (q_ix (i := a) underlying23 inf3 rfl rfl (Sl.o h.prio) (by omega) (by rw [List.length_map]; omega)) (DO.q rfl (q_ld underlying3 rfl rfl (Sl.o h.prio) (ints_get (by omega))) (DO.q rfl (q_max rfl rfl) (DO.q rfl (q_move rfl) ?_)))
    refine DO.q rfl (q_fa underlying25 rfl inf23 rfl rfl) (DO.q rfl (q_lb 0 underlying23 rfl rfl rfl rfl) (DO.q rfl (q_move rfl) (DO.q rfl (q_ix (i := a) underlying23 inf3 rfl rfl (fun w9 hI9 => (hI9.atP (II := 23) (I := 3) (mG 1 rfl)).prio) (by omega) (by rw [List.length_map]; omega)) ?_)))
    refine DO.q rfl (q_ld underlying3 rfl rfl (fun w9 hI9 => (hI9.atP (II := 23) (I := 3) (mG 1 rfl)).prio) (ints_get (by omega))) (DO.q rfl (q_max rfl rfl) (DO.q rfl (q_assign rfl) (DO.q rfl (q_assign rfl) ?_)))
    refine DO.done ?_
    refine T.rg ?_
    refine TO.qm rfl (TO.q (q_addN (a := a) (b := 1) rfl rfl (by omega)) (TO.qa rfl ?_))
    refine TO.nl ?_
    exact ⟨a + 1, by omega, _, _, rfl, by omega, (by have h9 := hRle a (by omega) (by omega); split <;> split <;> omega), ⟨rfl, rfl, rfl, rfl, rfl, rfl, rfl, rfl, rfl, rfl, rfl, rfl, rfl, trivial⟩⟩
  have hge89 : ¬ a < R.prio.length := by omega
  refine T.exit ?_
  refine T.s (T.rg ?_)
  refine TO.qm rfl (TO.q (q_conv_id underlying5 underlying3 rfl (by first | rfl | exact wrap64_id ⟨by omega, by omega⟩ | exact wrap8 (by omega) | exact wrapU64 (by omega))) (TO.q (q_fa underlying25 rfl inf22 rfl rfl) (TO.q (q_lb 3 underlying22 rfl rfl rfl rfl) ?_)))
  refine TO.q (q_len underlying22 rfl) (TO.q (q_remN (a := st) (b := p.next.length) rfl rfl (by omega)) (TO.q (q_fa underlying25 rfl inf3 rfl rfl) ?_))
  refine TO.l rfl (l_sb (v := .int .i64 ((st % p.next.length : Nat) : Int)) (vs := [(.int .i64 ((st % p.next.length : Nat) : Int))]) 3 inf3 rfl rfl rfl rfl rfl rfl (by simp [putL]) ?_)
  refine TO.nl (T.s (T.rg ?_))
  refine TO.q (q_fa underlying25 rfl inf3 rfl rfl) (TO.q (q_lb 3 underlying3 rfl rfl rfl rfl) (TO.q (q_fa underlying25 rfl inf3 rfl rfl) ?_))
  refine TO.l rfl (l_sb (v := (.int .i64 ((st % p.next.length : Nat) : Int))) (vs := [(.int .i64 ((st % p.next.length : Nat) : Int))]) 0 inf3 rfl rfl rfl rfl rfl rfl (by simp [putL]) ?_)
  refine TO.nl (T.s (T.rg ?_))
  refine TO.q (q_la 3 underlying25 rfl inf25 rfl rfl rfl) (TO.q (q_la 2 underlying28 rfl inf28 rfl rfl rfl) ?_)
  have hk119 := fun (w1 : World) (hI : Inv w [oI z5 25 [(.int .i64 R.vars), (.int .i64 ((st % p.next.length : Nat) : Int)), (.slice k5.nb R.next.length k5.nc), (.slice k5.fb R.prio.length k5.fc)], pI 23 3 R k5, oI z2 28 (lC l kl), oI z1 25 [(.int .i64 p.vars), (.int .i64 ((st % p.next.length : Nat) : Int)), (.slice k.nb p.next.length k.nc), (.slice k.fb p.prio.length k.fc)]] w1) => (haveI := tbz hI; parRun w1 (stP p ((st % p.next.length : Nat) : Int)) k ⟨(hI.atQ h).outer, (hI.atQ h).rows, (hI.atQ h).prio⟩ ⟨hB.n, hB.r, hB.f⟩ l kl (hI.atU hl) hL)
  refine TO.l rfl (l_call ent15 (CallT.op hk119) rfl ?_)
  clear hk119
  rintro vr O' ⟨N, rfl, rfl, rfl⟩
  refine TO.qm rfl (TO.q (q_extract (vs := _) rfl rfl) (TO.q (q_extract (vs := _) rfl rfl) (TO.qa rfl ?_)))
  refine TO.qa rfl ?_
  refine TO.sub (O' := [oI z5 25 [(.int .i64 R.vars), (.int .i64 ((st % p.next.length : Nat) : Int)), (.slice k5.nb R.next.length k5.nc), (.slice k5.fb R.prio.length k5.fc)], pI 23 3 R k5, oI z2 28 (lC l kl), oI z1 25 [(.int .i64 p.vars), (.int .i64 ((st % p.next.length : Nat) : Int)), (.slice k.nb p.next.length k.nc), (.slice k.fb p.prio.length k.fc)]]) (Sub.pick [0, 0, 0, 0] rfl) ?_
  refine TO.nl (T.s (T.rg ?_))
  refine TO.q (q_la 0 underlying25 rfl inf25 rfl rfl rfl) (TO.q (q_la 2 underlying28 rfl inf28 rfl rfl rfl) ?_)
  have hk125 := fun (w1 : World) (hI : Inv w [oI z5 25 [(.int .i64 R.vars), (.int .i64 ((st % p.next.length : Nat) : Int)), (.slice k5.nb R.next.length k5.nc), (.slice k5.fb R.prio.length k5.fc)], pI 23 3 R k5, oI z2 28 (lC l kl), oI z1 25 [(.int .i64 p.vars), (.int .i64 ((st % p.next.length : Nat) : Int)), (.slice k.nb p.next.length k.nc), (.slice k.fb p.prio.length k.fc)]] w1) => (haveI := tbz hI; (show PureT _ _ _ _ _ from by
      have h9 := parRun w1 (stP R ((st % p.next.length : Nat) : Int)) k5 ⟨(hI.atP (II := 23) (I := 3) (mG 1 rfl)).outer, (hI.atP (II := 23) (I := 3) (mG 1 rfl)).rows, (hI.atP (II := 23) (I := 3) (mG 1 rfl)).prio⟩ ⟨hR.n, hR.r, hR.f⟩ l kl (hI.atU hl) hL
      rw [hrun.1] at h9
      exact h9))
  refine TO.l rfl (l_call ent15 (CallT.op hk125) rfl ?_)
  clear hk125
  rintro vr O' ⟨N, rfl, rfl, rfl⟩
  refine TO.qm rfl (TO.q (q_extract (vs := _) rfl rfl) (TO.q (q_extract (vs := _) rfl rfl) (TO.qa rfl ?_)))
  refine TO.qa rfl ?_
  refine TO.sub (O' := [oI z5 25 [(.int .i64 R.vars), (.int .i64 ((st % p.next.length : Nat) : Int)), (.slice k5.nb R.next.length k5.nc), (.slice k5.fb R.prio.length k5.fc)], pI 23 3 R k5, oI z2 28 (lC l kl), oI z1 25 [(.int .i64 p.vars), (.int .i64 ((st % p.next.length : Nat) : Int)), (.slice k.nb p.next.length k.nc), (.slice k.fb p.prio.length k.fc)]]) (Sub.pick [0, 0, 0, 0] rfl) ?_
  refine TO.nl (T.s (T.rg ?_))
  refine TO.qm rfl (TO.qm rfl (TO.q (QT.toB (q_leq rfl rfl) (decide_eq_true hmn)) (TO.qm rfl ?_)))
  refine TO.gd rfl rfl rfl (LT.oq rfl rfl (q_move rfl) ?_)
  refine TO.gd rfl rfl rfl (LT.oq rfl rfl (q_move rfl) ?_)
  refine TO.gd rfl rfl rfl (LT.oq rfl rfl (QT.toB (q_eql rfl rfl) (decide_eq_true rfl)) ?_)
  refine TO.q (q_pick1 rfl rfl) (TO.qm rfl ?_)
  refine TO.gd rfl rfl rfl (LT.oq rfl rfl (q_move rfl) ?_)
  by_cases h138 : ((ruE (stP p ((st % p.next.length : Nat) : Int)) l : Nat) : Int) ≠ 0
  · refine TO.gd rfl rfl rfl (LT.oq rfl rfl (QT.toB (q_neq rfl rfl) (decide_eq_true h138)) ?_)
    refine TO.gd rfl rfl rfl (LT.oq rfl rfl (q_move rfl) ?_)
    refine TO.pd rfl rfl ?_
    refine TO.pd rfl rfl ?_
    refine TO.pd rfl rfl ?_
    refine TO.pd rfl rfl ?_
    refine TO.pd rfl rfl ?_
    refine TO.pd rfl rfl ?_
    refine TO.pd rfl rfl ?_
    refine TO.pd rfl rfl ?_
    refine TO.pd rfl rfl ?_
    refine TO.pd rfl rfl ?_
    refine TO.gd rfl rfl rfl (LT.oq rfl rfl (q_pick1 rfl rfl) ?_)
    refine TO.q (q_pick1 rfl rfl) (TO.qa rfl ?_)
    refine TO.nl (T.ret (Res.drop ?_))
    refine Res.one (.bool true) Tryd.results6 rfl ?_
    exact ⟨[], Sub.of (List.nil_sublist _), rfl, rfl⟩
  refine TO.gd rfl rfl rfl (LT.oq rfl rfl (QT.toB (q_neq rfl rfl) (decide_eq_false h138)) ?_)
  refine TO.gd rfl rfl rfl (LT.oq rfl rfl (q_move rfl) ?_)
  refine TO.gd rfl rfl rfl (LT.oq rfl rfl (q_move rfl) ?_)
  refine TO.gd rfl rfl rfl (LT.oq rfl rfl (q_remN (a := (ruV (stP p ((st % p.next.length : Nat) : Int)) l)) (b := 2) rfl rfl (by omega)) ?_)
  refine TO.gd rfl rfl rfl (LT.oq rfl rfl (q_move rfl) ?_)
  refine TO.gd rfl rfl rfl (LT.oq rfl rfl (q_remN (a := (ruV (stP R ((st % p.next.length : Nat) : Int)) l)) (b := 2) rfl rfl (by omega)) ?_)
  refine TO.gd rfl rfl rfl (LT.oq rfl rfl (QT.toB (q_eql rfl rfl) (decide_eq_true (by have := (hrun.2 (by omega)).1; omega))) ?_)
  refine TO.gd rfl rfl rfl (LT.oq rfl rfl (q_move rfl) ?_)
  refine TO.gd rfl rfl rfl (LT.oq rfl rfl (q_move rfl) ?_)
  refine TO.gd rfl rfl rfl (LT.oq rfl rfl (q_move rfl) ?_)
  refine TO.gd rfl rfl rfl (LT.oq rfl rfl (QT.toB (q_leq rfl rfl) (decide_eq_true (by have := (hrun.2 (by omega)).2; omega))) ?_)
  refine TO.gd rfl rfl rfl (LT.oq rfl rfl (q_pick1 rfl rfl) ?_)
  refine TO.gd rfl rfl rfl (LT.oq rfl rfl (q_pick0 rfl rfl) ?_)
  refine TO.q (q_pick1 rfl rfl) (TO.qa rfl ?_)
  refine TO.nl (T.ret (Res.drop ?_))
  refine Res.one (.bool true) Tryd.results6 rfl ?_
  exact ⟨[], Sub.of (List.nil_sublist _), rfl, rfl⟩
end Go.Proofs.YtnikhiohindggaaDoor

