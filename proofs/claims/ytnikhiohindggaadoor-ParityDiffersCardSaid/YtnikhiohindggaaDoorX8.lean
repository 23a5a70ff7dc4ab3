/- Contracts of functions of the program (X8): what each call answers and that it leaves memory as it was. Conditions: those each theorem names. -/
import Derived.Test.YtnikhiohindggaaDoorCoreL
import Derived.Test.YtnikhiohindggaaDoorYs
import Derived.Test.YtnikhiohindggaaDoorZ4
import Derived.Test.YtnikhiohindggaaDoorX6
import Derived.Test.YtnikhiohindggaaDoorX7
import Derived.Test.YtnikhiohindggaaDoorYo
set_option linter.unusedSectionVars false
set_option linter.unusedSimpArgs false
set_option linter.unusedVariables false
set_option linter.unnecessarySimpa false
set_option maxHeartbeats 8000000
set_option maxRecDepth 20000
namespace Go.Proofs.YtnikhiohindggaaDoor
open Go.Lx Go.RowKit _root_.Go.Proofs.Tryd
theorem ac_wit {p : Par} {l : La} (hp : ValidP p) (h : LasOk p l) (h1 : l.pre.length ≤ 64) (h2 : l.loop.length ≤ 64) (he : infP p l.at % 2 = 0) : acB p l = true := by
 have h0 : ruE p l = 0 := ruE_zero.2 ⟨hp, LaV.zero hp ⟨h.pos, h1, h2, h.pre, h.loop⟩⟩
 unfold acB ruV
 rw [if_pos h0]; exact decide_eq_true ⟨h0, he⟩
theorem ac_dif {p q : Par} {l : La} (hp : ValidP p) (hq : ValidP q) (hv : p.vars = q.vars) (h : checkLV p.vars l = 0) (hne : infP p l.at % 2 ≠ infP q l.at % 2) : (acB p l != acB q l) = true := by
 have h0 : ruE p l = 0 := ruE_zero.2 ⟨hp, h⟩
 have h1 : ruE q l = 0 := ruE_zero.2 ⟨hq, hv ▸ h⟩
 unfold acB ruV
 rw [if_pos h0, if_pos h1]
 rcases Nat.mod_two_eq_zero_or_one (infP p l.at) with a | a <;> rcases Nat.mod_two_eq_zero_or_one (infP q l.at) with b | b
 ·exact absurd (a.trans b.symm) hne
 ·rw [decide_eq_true ⟨h0, a⟩, decide_eq_false (fun g => by have := g.2; omega)]; rfl
 ·rw [decide_eq_false (fun g => by have := g.2; omega), decide_eq_true ⟨h1, b⟩]; rfl
 ·exact absurd (a.trans b.symm) hne
theorem las_b {p : Par} {l : La} (hp : ValidP p) (h : LasOk p l) (h1 : l.pre.length ≤ 1000000) (h2 : l.loop.length ≤ 1000000) : LaB l := ⟨h1, h2, (h.b hp).1, (h.b hp).2⟩
theorem nil_lens {l : La} (h : l = nilLa) : l.pre.length = 0 ∧ l.loop.length = 0 := by rw [h]; exact ⟨rfl, rfl⟩
theorem differsW (w : World) [Tab Tryd.prog w] (p : Par) (k : DK) (h : AtP w p k) (hB : ParC p) (q : Par) (k2 : DK) (h2 : AtP w q k2) (hB2 : ParC q) :
  PureT Tryd.prog 5 [pV p k, pV q k2] w fun v N => v = .bool true ∧ N = [] := by
 refine CallT.enter func5 rfl ntmps5 rfl ?_
 have hBn := hB.n; have hB2n := hB2.n
 refine T.s (T.rg (TO.l rfl (l_box (v := (pV p k)) (cs := (pC p k)) rfl rfl (fun z1 => ?_))))
 refine TO.l rfl (l_box (v := (pV q k2)) (cs := (pC q k2)) rfl rfl (fun z2 => ?_))
 refine TO.qa rfl (TO.nl (T.s (T.s (T.rg (TO.q (q_la 1 uT25 rfl inf25 rfl rfl rfl) (TO.q (q_la 0 uT25 rfl inf25 rfl rfl rfl) (TO.l rfl (l_buildSlice (m := 2) (parts := [(0, _), (1, _)]) (cs := [(vI p.vars), (vI p.start), (.slice k.nb p.next.length k.nc), (.slice k.fb p.prio.length k.fc), (vI q.vars), (vI q.start), (.slice k2.nb q.next.length k2.nc), (.slice k2.fb q.prio.length k2.fc)]) uT59 inf25 (by decide) (by kernel_rfl) rfl (fun z3 => ?_)))))))))
 have hk16 := fun (w1 : World) (hI : Inv w [rowI (aD z3) 2 25 4 [(vI p.vars), (vI p.start), (.slice k.nb p.next.length k.nc), (.slice k.fb p.prio.length k.fc), (vI q.vars), (vI q.start), (.slice k2.nb q.next.length k2.nc), (.slice k2.fb q.prio.length k2.fc)], oI z2 25 (pC q k2), oI z1 25 (pC p k)] w1) => (haveI := tbz hI; (show PureT _ _ _ _ _ from by
   have h9 := longPF w1 (aD z3) 2 [(p, k), (q, k2)] (hI.slOf (cs := parsC [(p, k), (q, k2)]) (mG 0 rfl)) (by intro q9 hq; simp only [List.mem_cons, List.not_mem_nil, or_false] at hq; rcases hq with rfl | rfl <;> first | exact hI.atQ h | exact hI.atQ h2) (by show 2 < 1000000; decide) (by intro q9 hq; simp only [List.mem_cons, List.not_mem_nil, or_false] at hq; rcases hq with rfl | rfl <;> first | exact hB | exact hB2)
   rw [show ([(p, k), (q, k2)] : List (Par × DK)).any (fun q => Lx.longP q.1) = (Lx.longP p || Lx.longP q) by simp] at h9
   exact h9))
 refine TO.l rfl (l_call ent10 (CallT.op hk16) rfl ?_)
 clear hk16
 rintro vr O' ⟨N, rfl, rfl, rfl⟩
 by_cases h17 : (Lx.longP p || Lx.longP q) = true
 ·refine TO.q (QT.toB (q_move rfl) (h17)) ?_
  refine TO.pd rfl rfl (TO.pd rfl rfl (TO.pd rfl rfl (TO.pd rfl rfl (TO.pd rfl rfl (TO.pd rfl rfl (TO.pd rfl rfl (TO.pd rfl rfl ?_)))))))
  refine TO.q (q_pick1 rfl rfl) (TO.nl ?_)
  refine T.cond1 rfl ?_
  refine T.s (T.rg ?_)
  have hk27 := fun (w1 : World) (hI : Inv w [rowI (aD z3) 2 25 4 [(vI p.vars), (vI p.start), (.slice k.nb p.next.length k.nc), (.slice k.fb p.prio.length k.fc), (vI q.vars), (vI q.start), (.slice k2.nb q.next.length k2.nc), (.slice k2.fb q.prio.length k2.fc)], oI z2 25 (pC q k2), oI z1 25 (pC p k)] w1) => (haveI := tbz hI; awakeC w1)
  refine TO.l rfl (l_call ent12 (CallT.op hk27) rfl ?_)
  clear hk27
  rintro vr O' ⟨N, rfl, rfl, rfl⟩
  refine TO.qa rfl (TO.nl (T.ret (Res.drop ?_)))
  refine Res.one (.bool true) Tryd.results5 rfl ?_
  exact ⟨[], Sub.of (List.nil_sublist _), rfl, rfl⟩
 refine TO.q (QT.toB (q_move rfl) (Bool.eq_false_iff.2 h17)) ?_
 obtain ⟨hlp, hlq⟩ : Lx.longP p = false ∧ Lx.longP q = false := by simpa using h17
 obtain ⟨h12, h14, h66⟩ := longP_no hlp
 obtain ⟨g12, g14, g66⟩ := longP_no hlq
 have hnm9 := Nat.mul_le_mul h12 g12
 refine TO.gq rfl rfl (q_fa uT25 rfl inf22 rfl rfl) (TO.gq rfl rfl (q_lb 2 uT22 rfl rfl rfl rfl) (TO.gq rfl rfl (q_len uT22 rfl) (TO.gq rfl rfl (q_fa uT25 rfl inf22 rfl rfl) (TO.gq rfl rfl (q_lb 1 uT22 rfl rfl rfl rfl) (TO.gq rfl rfl (q_len uT22 rfl) (TO.gq rfl rfl (q_mulN (a := p.next.length) (b := q.next.length) rfl rfl (by omega)) (TO.gq rfl rfl (q_gtr rfl rfl) ?_)))))))
 refine TO.q (q_pick0 rfl rfl) (TO.nl (T.condP rfl (fun hc => ?_) (fun hc => ?_)))
 ·have hlt26 : p.next.length * q.next.length > 40 := by omega
  refine T.s (T.rg ?_)
  have hk27 := fun (w1 : World) (hI : Inv w [rowI (aD z3) 2 25 4 [(vI p.vars), (vI p.start), (.slice k.nb p.next.length k.nc), (.slice k.fb p.prio.length k.fc), (vI q.vars), (vI q.start), (.slice k2.nb q.next.length k2.nc), (.slice k2.fb q.prio.length k2.fc)], oI z2 25 (pC q k2), oI z1 25 (pC p k)] w1) => (haveI := tbz hI; awakeC w1)
  refine TO.l rfl (l_call ent12 (CallT.op hk27) rfl ?_)
  clear hk27
  rintro vr O' ⟨N, rfl, rfl, rfl⟩
  refine TO.qa rfl (TO.nl (T.ret (Res.drop ?_)))
  refine Res.one (.bool true) Tryd.results5 rfl ?_
  exact ⟨[], Sub.of (List.nil_sublist _), rfl, rfl⟩
 have hge26 : ¬ p.next.length * q.next.length > 40 := by omega
 have hnm : p.next.length * q.next.length ≤ 40 := by omega
 refine T.skip (T.s (T.rg (TO.q (q_la 2 uT25 rfl inf25 rfl rfl rfl) (TO.q (q_la 1 uT25 rfl inf25 rfl rfl rfl) ?_))))
 have hk31 := fun (w1 : World) (hI : Inv w [rowI (aD z3) 2 25 4 [(vI p.vars), (vI p.start), (.slice k.nb p.next.length k.nc), (.slice k.fb p.prio.length k.fc), (vI q.vars), (vI q.start), (.slice k2.nb q.next.length k2.nc), (.slice k2.fb q.prio.length k2.fc)], oI z2 25 (pC q k2), oI z1 25 (pC p k)] w1) => (haveI := tbz hI; parDif w1 p k (hI.atQ h) q k2 (hI.atQ h2) hB hB2 (fun _ => by omega))
 refine TO.l rfl (l_call ent29 (CallT.op hk31) rfl ?_)
 clear hk31
 rintro vr O' ⟨N, rfl, l, kA, b, e, rfl, rfl, hD⟩
 refine TO.qm rfl (TO.q (q_extract (vs := _) rfl rfl) (TO.q (q_extract (vs := _) rfl rfl) (TO.q (q_extract (vs := _) rfl rfl) (TO.l rfl (l_alloc inf28 rfl (fun z4 => ?_))))))
 refine TO.l rfl (l_sb (v := (lV l kA)) (vs := (lC l kA)) 0 inf28 rfl rfl rfl rfl rfl rfl (by simp [putL]) ?_)
 refine TO.qa rfl (TO.qa rfl ?_)
 refine TO.sub (O' := [oI z4 28 (lC l kA), lI 5 l kA, oI z2 25 (pC q k2), oI z1 25 (pC p k)]) (Sub.pick [0, 0, 1, 1] rfl) ?_
 refine TO.nl (T.s (T.rg (TO.q (q_la 3 uT25 rfl inf25 rfl rfl rfl) ?_)))
 have hk37 := fun (w1 : World) (hI : Inv w [oI z4 28 (lC l kA), lI 5 l kA, oI z2 25 (pC q k2), oI z1 25 (pC p k)] w1) => (haveI := tbz hI; parWit w1 p k (hI.atQ h) hB)
 refine TO.l rfl (l_call ent30 (CallT.op hk37) rfl ?_)
 clear hk37
 rintro vr O' ⟨N, rfl, l2, kl2, e2, rfl, rfl, hW⟩
 refine TO.qm rfl (TO.q (q_extract (vs := _) rfl rfl) (TO.q (q_extract (vs := _) rfl rfl) (TO.l rfl (l_alloc inf28 rfl (fun z5 => ?_)))))
 refine TO.l rfl (l_sb (v := (lV l2 kl2)) (vs := (lC l2 kl2)) 0 inf28 rfl rfl rfl rfl rfl rfl (by simp [putL]) ?_)
 refine TO.qa rfl ?_
 refine TO.sub (O' := [oI z5 28 (lC l2 kl2), lI 5 l2 kl2, oI z4 28 (lC l kA), lI 5 l kA, oI z2 25 (pC q k2), oI z1 25 (pC p k)]) (Sub.pick [0, 0, 0, 0, 0, 0] rfl) ?_
 refine TO.nl (T.s ?_)
 refine T.draws _ [(0, 0), (2, 0), (1, 1), (3, 2), (4, 2), (5, 2)] mixed (by kernel_rfl) (Sub.of (List.Sublist.refl _)) (fun _ _ _ h => h) ?_
 refine DO.q rfl (q_la 5 uT25 rfl inf25 rfl rfl rfl) (DO.q rfl (q_la 4 uT25 rfl inf25 rfl rfl rfl) ?_)
 have hk41 := fun (w1 : World) (hI : Inv w [oI z5 28 (lC l2 kl2), lI 5 l2 kl2, oI z4 28 (lC l kA), lI 5 l kA, oI z2 25 (pC q k2), oI z1 25 (pC p k)] w1) => (haveI := tbz hI; refParCheck w1 p k (hI.atQ h) hB)
 refine DO.loud rfl rfl (l_call ent21 (CallT.op hk41) rfl ?_)
 clear hk41
 rintro vr O' ⟨N, rfl, rfl, rfl⟩
 refine ⟨Sub.pick [0, 0, 0, 0, 0, 0] rfl, ?_⟩
 have hk43 := fun (w1 : World) (hI : Inv w [oI z5 28 (lC l2 kl2), lI 5 l2 kl2, oI z4 28 (lC l kA), lI 5 l kA, oI z2 25 (pC q k2), oI z1 25 (pC p k)] w1) => (haveI := tbz hI; refParCheck w1 q k2 (hI.atQ h2) hB2)
 refine DO.last rfl rfl (l_call ent21 (CallT.op hk43) rfl ?_)
 clear hk43
 rintro vr O' ⟨N, rfl, rfl, rfl⟩
 refine DO.last rfl rfl (LT.oq rfl rfl (q_assign rfl) ?_)
 refine DO.last rfl rfl (LT.oq rfl rfl (q_assign rfl) ?_)
 refine DO.done ?_
 refine T.s (T.s (T.rg (TO.qm rfl (TO.q (q_neq rfl rfl) (TO.nl (T.condP rfl (fun hc => ?_) (fun hc => ?_)))))))
 ·have hlt45 : checkP p ≠ 0 := by omega
  have hc0 : checkP p ≠ 0 := by omega
  obtain ⟨hW1, hW2⟩ := wi_err hc0 hW
  have hDx := di_p hc0 hD
  have hD1 := hDx.1
  have hD2 := hDx.2.1
  have hl0 := hDx.2.2
  have hl20 := (nil_lens hW2).2
  refine T.s (T.rg (TO.qm rfl (TO.qm rfl (TO.q (QT.toB (q_eql rfl rfl) (decide_eq_true (by omega))) (TO.qm rfl (TO.gq rfl rfl (q_move rfl) (TO.gq rfl rfl (q_move rfl) (TO.gq rfl rfl (QT.toB (q_eql rfl rfl) (decide_eq_true (by omega))) (TO.q (q_pick1 rfl rfl) (TO.qm rfl (TO.gq rfl rfl (QT.cast (q_move rfl) (v' := .bool false) (congrArg Value.bool hD2)) (TO.gq rfl rfl (q_not rfl) ?_))))))))))))
  refine TO.q (q_pick1 rfl rfl) (TO.qm rfl (TO.gq rfl rfl (q_fa uT28 rfl inf26 rfl rfl) (TO.gq rfl rfl (q_lb 2 uT26 rfl rfl rfl rfl) (TO.gq rfl rfl (q_len uT26 rfl) (TO.gq rfl rfl (q_fa uT28 rfl inf26 rfl rfl) (TO.gq rfl rfl (q_lb 0 uT26 rfl rfl rfl rfl) (TO.gq rfl rfl (q_len uT26 rfl) (TO.gq rfl rfl (q_addN (a := l.loop.length) (b := l2.loop.length) rfl rfl (by omega)) ?_))))))))
  refine TO.gq rfl rfl (QT.toB (q_eql rfl rfl) (decide_eq_true (by omega))) (TO.q (q_pick1 rfl rfl) (TO.qm rfl ?_))
  have hk69 := fun (w1 : World) (hI : Inv w [oI z5 28 (lC l2 kl2), lI 5 l2 kl2, oI z4 28 (lC l kA), lI 5 l kA, oI z2 25 (pC q k2), oI z1 25 (pC p k)] w1) => (haveI := tbz hI; awakeC w1)
  refine TO.gd rfl rfl rfl (l_call ent12 (CallT.op hk69) rfl ?_)
  clear hk69
  rintro vr O' ⟨N, rfl, rfl, rfl⟩
  refine TO.q (q_pick1 rfl rfl) (TO.qa rfl (TO.nl (T.ret (Res.drop ?_))))
  refine Res.one (.bool true) Tryd.results5 rfl ?_
  exact ⟨[], Sub.of (List.nil_sublist _), rfl, rfl⟩
 have hge45 : ¬ checkP p ≠ 0 := by omega
 have hp0 : checkP p = 0 := by omega
 have hp := checkP_zero.1 hp0
 have hWi := wi_ok hp0 hW
 have he2 : e2 = 9 ∨ e2 = 0 := hWi.elim (fun h9 => .inl h9.1) (fun h9 => .inr h9.1)
 refine T.skip (T.s (T.s (T.rg (TO.qm rfl ?_))))
 by_cases h72 : ((e2 : Nat) : Int) = 9
 ·refine TO.q (QT.toB (q_eql rfl rfl) (decide_eq_true h72)) ?_
  refine TO.q (q_la 5 uT25 rfl inf25 rfl rfl rfl) ?_
  have hk74 := fun (w1 : World) (hI : Inv w [oI z5 28 (lC l2 kl2), lI 5 l2 kl2, oI z4 28 (lC l kA), lI 5 l kA, oI z2 25 (pC q k2), oI z1 25 (pC p k)] w1) => (haveI := tbz hI; emptyR w1 p k (hI.atQ h) hp)
  refine TO.l rfl (l_call ent31 (CallT.op hk74) rfl ?_)
  clear hk74
  rintro vr O' ⟨N, rfl, bb, rfl, hbb, rfl⟩
  have hbx : decide (e2 = 9) = bb := by
   rcases hWi with ⟨h8, h9⟩ | ⟨h8, h9, _⟩
   ·rw [h8, hbb.2 h9]; rfl
   ·cases hbc : bb
    ·rw [h8]; rfl
    ·exact absurd h9 (hbb.1 hbc)
  refine TO.q (QT.cast (q_bneq uT4 rfl rfl) (v' := .bool false) (congrArg Value.bool (by rw [← hbx, decide_eq_true (by omega)]; rfl))) (TO.qm rfl (TO.gq rfl rfl (q_move rfl) (TO.gq rfl rfl (QT.toB (q_neq rfl rfl) (decide_eq_true (by omega))) (TO.gq rfl rfl (q_move rfl) (TO.gq rfl rfl (q_move rfl) (TO.gq rfl rfl (QT.toB (q_neq rfl rfl) (decide_eq_false (by omega))) (TO.gq rfl rfl (q_pick1 rfl rfl) (TO.q (q_pick0 rfl rfl) ?_))))))))
  refine TO.nl (T.cond0 rfl (T.skip (T.s (T.s ?_))))
  
  refine T.draws _ [(0, 0), (1, 0), (2, 0), (3, 0), (5, 0), (4, 1), (6, 1), (7, 0), (8, 0), (9, 0), (10, 0), (11, 0), (12, 0), (13, 0), (14, 0), (15, 0), (16, 0), (17, 0), (18, 0), (19, 0), (20, 0), (21, 0), (22, 0), (23, 0), (24, 0), (25, 0), (26, 0), (27, 0), (28, 0), (29, 0), (30, 2), (31, 2), (32, 2), (33, 2)] mixed (drawF_ok (by kernel_rfl)) (Sub.of (List.Sublist.refl _)) (fun _ _ _ h => h) ?_
  refine DO.q rfl (q_move rfl) (DO.q rfl (QT.toB (q_eql rfl rfl) (decide_eq_false (by omega))) (DO.q rfl (q_move rfl) (DO.passed rfl rfl rfl (DO.passed rfl rfl rfl ?_))))
  refine DO.passedL (by decide) rfl rfl rfl rfl rfl ?_
  refine DO.passedL (by decide) rfl rfl rfl rfl rfl ?_
  refine DO.passed rfl rfl rfl (DO.passed rfl rfl rfl (DO.passed rfl rfl rfl (DO.passed rfl rfl rfl (DO.passed rfl rfl rfl (DO.passed rfl rfl rfl (DO.passed rfl rfl rfl (DO.passed rfl rfl rfl ?_)))))))
  refine DO.passed rfl rfl rfl (DO.passed rfl rfl rfl (DO.passed rfl rfl rfl (DO.passed rfl rfl rfl (DO.passed rfl rfl rfl (DO.passed rfl rfl rfl (DO.passed rfl rfl rfl (DO.passed rfl rfl rfl ?_)))))))
  refine DO.passed rfl rfl rfl (DO.passed rfl rfl rfl (DO.passed rfl rfl rfl (DO.passed rfl rfl rfl (DO.passed rfl rfl rfl (DO.passed rfl rfl rfl (DO.passed rfl rfl rfl ?_))))))
  refine DO.passedL (by decide) rfl rfl rfl rfl rfl ?_
  refine DO.passedL (by decide) rfl rfl rfl rfl rfl ?_
  refine DO.passedL (by decide) rfl rfl rfl rfl rfl ?_
  refine DO.last rfl rfl (LT.oq rfl rfl (q_pick0 rfl rfl) ?_)
  refine DO.sub (O' := [oI z5 28 (lC l2 kl2), lI 5 l2 kl2, oI z4 28 (lC l kA), lI 5 l kA, oI z2 25 (pC q k2), oI z1 25 (pC p k)]) (Sub.pick [0, 0, 0, 0, 0, 0] rfl) ?_
  refine DO.done ?_
  refine T.cond0 rfl (T.skip (T.s (T.s (T.rg (TO.qm rfl ?_)))))
  by_cases h119 : ((checkP q : Nat) : Int) = 0
  ·refine TO.q (QT.toB (q_eql rfl rfl) (decide_eq_true h119)) ?_
   refine TO.qm rfl (TO.gq rfl rfl (q_fa uT25 rfl inf3 rfl rfl) (TO.gq rfl rfl (q_lb 5 uT3 rfl rfl rfl rfl) (TO.gq rfl rfl (q_fa uT25 rfl inf3 rfl rfl) (TO.gq rfl rfl (q_lb 4 uT3 rfl rfl rfl rfl) (TO.gq rfl rfl (q_neq rfl rfl) (TO.q (q_pick1 rfl rfl) (TO.nl (T.condP rfl (fun hc => ?_) (fun hc => ?_)))))))))
   ·have hc126 := hc
    refine T.rg (TO.qa rfl (TO.nl (T.s (T.s (T.rg (TO.qm rfl (TO.q (q_neq rfl rfl) (TO.nl (T.condP rfl (fun hc => ?_) (fun hc => ?_))))))))))
    ·have hlt128 : 7 ≠ 0 := by omega
     have hq0 : checkP q = 0 := by omega
     have hDx := di_7 hp0 hq0 hc126 hD
     have hD1 := hDx.1
     have hD2 := hDx.2.1
     have hl0 := hDx.2.2
     refine T.s (T.rg (TO.qm rfl (TO.qm rfl (TO.q (QT.toB (q_eql rfl rfl) (decide_eq_true (by omega))) (TO.qm rfl (TO.gq rfl rfl (QT.cast (q_move rfl) (v' := .bool false) (congrArg Value.bool hD2)) (TO.gq rfl rfl (q_not rfl) (TO.q (q_pick1 rfl rfl) (TO.qm rfl (TO.gq rfl rfl (q_fa uT28 rfl inf26 rfl rfl) (TO.gq rfl rfl (q_lb 2 uT26 rfl rfl rfl rfl) (TO.gq rfl rfl (q_len uT26 rfl) ?_))))))))))))
     refine TO.gq rfl rfl (QT.toB (q_eql rfl rfl) (decide_eq_true (by omega))) (TO.q (q_pick1 rfl rfl) (TO.qm rfl ?_))
     have hk143 := fun (w1 : World) (hI : Inv w [oI z5 28 (lC l2 kl2), lI 5 l2 kl2, oI z4 28 (lC l kA), lI 5 l kA, oI z2 25 (pC q k2), oI z1 25 (pC p k)] w1) => (haveI := tbz hI; awakeC w1)
     refine TO.gd rfl rfl rfl (l_call ent12 (CallT.op hk143) rfl ?_)
     clear hk143
     rintro vr O' ⟨N, rfl, rfl, rfl⟩
     refine TO.q (q_pick1 rfl rfl) (TO.qa rfl (TO.nl (T.ret (Res.drop ?_))))
     refine Res.one (.bool true) Tryd.results5 rfl ?_
     exact ⟨[], Sub.of (List.nil_sublist _), rfl, rfl⟩
    exact absurd (by decide) hc
   have hc126 := hc
   refine T.skip (T.s (T.s (T.rg (TO.qm rfl (TO.q (q_neq rfl rfl) (TO.nl (T.condP rfl (fun hc => ?_) (fun hc => ?_))))))))
   ·exact absurd h119 hc
   have hge128 : ¬ checkP q ≠ 0 := by omega
   have hq0 : checkP q = 0 := by omega
   have hq := checkP_zero.1 hq0
   have hvv : p.vars = q.vars := Decidable.not_not.1 hc126
   have hdi : diE p q = 0 := diE_zero.2 ⟨hp, hq, hvv⟩
   have hDx := di_ok hdi (by omega) hD
   have hDe := hDx.1
   have hDb := hDx.2.1
   have hDn := hDx.2.2.1
   have hDy := hDx.2.2.2
   refine T.skip (T.s (T.s (T.rg (TO.qm rfl (TO.q (QT.toB (q_neq rfl rfl) (decide_eq_false (by omega))) (TO.qm rfl (TO.gq rfl rfl (q_move rfl) (TO.gq rfl rfl (q_la 5 uT25 rfl inf25 rfl rfl rfl) (TO.gq rfl rfl (q_la 4 uT25 rfl inf25 rfl rfl rfl) ?_)))))))))
   have hk151 := fun (w1 : World) (hI : Inv w [oI z5 28 (lC l2 kl2), lI 5 l2 kl2, oI z4 28 (lC l kA), lI 5 l kA, oI z2 25 (pC q k2), oI z1 25 (pC p k)] w1) => (haveI := tbz hI; differR w1 p k (hI.atQ h) q k2 (hI.atQ h2) hp hq hvv (by omega))
   refine TO.gd rfl rfl rfl (l_call ent34 (CallT.op hk151) rfl ?_)
   clear hk151
   rintro vr O' ⟨N, rfl, b9, rfl, hb9, rfl⟩
   have hbe : b = b9 := by rw [Bool.eq_iff_iff, hDb, hb9]
   refine TO.gq rfl rfl (QT.cast (q_bneq uT4 rfl rfl) (v' := .bool false) (congrArg Value.bool (by rw [hbe]; exact bne_self_eq_false _))) (TO.q (q_pick0 rfl rfl) (TO.nl (T.cond0 rfl (T.skip (T.s (T.rg (TO.q (q_fa uT25 rfl inf22 rfl rfl) (TO.q (q_lb 5 uT22 rfl rfl rfl rfl) (TO.q (q_len uT22 rfl) (TO.q (q_fa uT25 rfl inf22 rfl rfl) (TO.q (q_lb 4 uT22 rfl rfl rfl rfl) (TO.q (q_len uT22 rfl) (TO.q (q_mulN (a := p.next.length) (b := q.next.length) rfl rfl (by omega)) (TO.qa rfl (TO.nl (T.s (T.s (T.rg ?_))))))))))))))))))
   refine TO.qm rfl (TO.q (q_not rfl) (TO.nl (T.condP (p := ¬ b = true) (congrArg Value.bool (by cases b <;> rfl)) (fun hc => ?_) (fun hc => ?_))))
   ·have hbf : b = false := by simpa using hc
    have hlx := nil_lens (hDn hbf)
    have hl1 := hlx.1
    have hl0 := hlx.2
    refine T.s (T.rg (TO.q (q_fa uT28 rfl inf26 rfl rfl) (TO.q (q_lb 2 uT26 rfl rfl rfl rfl) (TO.q (q_len uT26 rfl) (TO.q (q_fa uT28 rfl inf26 rfl rfl) (TO.q (q_lb 2 uT26 rfl rfl rfl rfl) (TO.q (q_len uT26 rfl) (TO.q (q_addN (a := l.pre.length) (b := l.loop.length) rfl rfl (by omega)) (TO.q (QT.toB (q_eql rfl rfl) (decide_eq_true (by omega))) (TO.qm rfl ?_))))))))))
    have hk172 := fun (w1 : World) (hI : Inv w [oI z5 28 (lC l2 kl2), lI 5 l2 kl2, oI z4 28 (lC l kA), lI 5 l kA, oI z2 25 (pC q k2), oI z1 25 (pC p k)] w1) => (haveI := tbz hI; awakeC w1)
    refine TO.gd rfl rfl rfl (l_call ent12 (CallT.op hk172) rfl ?_)
    clear hk172
    rintro vr O' ⟨N, rfl, rfl, rfl⟩
    refine TO.q (q_pick1 rfl rfl) (TO.qa rfl (TO.nl (T.ret (Res.drop ?_))))
    refine Res.one (.bool true) Tryd.results5 rfl ?_
    exact ⟨[], Sub.of (List.nil_sublist _), rfl, rfl⟩
   have hbt : b = true := Decidable.not_not.1 hc
   have hDz := hDy hbt
   have hcan := hDz.1
   have hpre := hDz.2.1
   have hloop := hDz.2.2.1
   have hlas := hDz.2.2.2.1
   have hne := hDz.2.2.2.2
   have hL1 := las_b hp hlas (by omega) (by omega)
   refine T.skip (T.s (T.s ?_))
   refine T.draws _ [(0, 0), (2, 0), (1, 1), (3, 1), (4, 0), (5, 0), (6, 0), (7, 0), (8, 0), (9, 0), (10, 0), (11, 0), (12, 0), (13, 0), (14, 0), (15, 0), (16, 0), (17, 0), (18, 0), (19, 0)] mixed (drawF_ok (by kernel_rfl)) (Sub.of (List.Sublist.refl _)) (fun _ _ _ h => h) ?_
   refine DO.q rfl (q_la 2 uT28 rfl inf28 rfl rfl rfl) (DO.q rfl (q_la 2 uT28 rfl inf28 rfl rfl rfl) ?_)
   have hk175 := fun (w1 : World) (hI : Inv w [oI z5 28 (lC l2 kl2), lI 5 l2 kl2, oI z4 28 (lC l kA), lI 5 l kA, oI z2 25 (pC q k2), oI z1 25 (pC p k)] w1) => (haveI := tbz hI; refCanonF w1 l kA.pb kA.lb kA.pc kA.lc (hI.atL (U8 := 5) (mG 3 rfl)) hL1 hcan.pos)
   refine DO.loud rfl rfl (l_call ent32 (CallT.op hk175) rfl ?_)
   clear hk175
   rintro vr O' ⟨N, rfl, c9, pb9, lb9, pc9, lc9, rfl, rfl, hsw⟩
   refine ⟨Sub.pick [2, 2, 2, 2, 2, 2] rfl, ?_⟩
   have hk177 := fun (w1 : World) (hI : Inv w [rowI pb9 pc9 5 1 (byts c9.pre), rowI lb9 lc9 5 1 (byts c9.loop), oI z5 28 (lC l2 kl2), lI 5 l2 kl2, oI z4 28 (lC l kA), lI 5 l kA, oI z2 25 (pC q k2), oI z1 25 (pC p k)] w1) => (haveI := tbz hI; (show PureT _ _ _ _ _ from by
     have h9 := isF w1 c9 pb9 lb9 pc9 lc9 (show LaAt w1 c9 pb9 lb9 pc9 lc9 from ⟨hI.slOf (mG 0 rfl), hI.slOf (mG 1 rfl), by have h9 := rowP.cap (hI.row (i := 0) rfl); simpa using h9, by have h9 := rowP.cap (hI.row (i := 1) rfl); simpa using h9⟩) (by have := hsw.pre; have := hL1.pre; omega) (by have := hsw.loop; have := hL1.loop; omega) l kA.pb kA.lb kA.pc kA.lc (hI.atL (U8 := 5) (mG 5 rfl))
     rw [decide_eq_true (canon_same hcan hsw)] at h9; exact h9))
   refine DO.loud rfl rfl (l_call ent24 (CallT.op hk177) rfl ?_)
   clear hk177
   rintro vr O' ⟨N, rfl, rfl, rfl⟩
   refine ⟨Sub.pick [2, 2, 2, 2, 2, 2] rfl, ?_⟩
   refine DO.q rfl (q_not rfl) (DO.q rfl (q_move rfl) ?_)
   refine DO.guarded rfl rfl rfl (q_fa uT28 rfl inf26 rfl rfl) ?_
   refine DO.guarded rfl rfl rfl (q_lb 2 uT26 rfl rfl rfl rfl) ?_
   refine DO.guarded rfl rfl rfl (q_len uT26 rfl) ?_
   refine DO.guarded rfl rfl rfl (q_move rfl) ?_
   refine DO.guarded rfl rfl rfl (QT.toB (q_gtr rfl rfl) (decide_eq_false (by omega))) ?_
   refine DO.q rfl (q_pick0 rfl rfl) (DO.q rfl (q_move rfl) ?_)
   refine DO.guarded rfl rfl rfl (q_fa uT28 rfl inf26 rfl rfl) ?_
   refine DO.guarded rfl rfl rfl (q_lb 2 uT26 rfl rfl rfl rfl) ?_
   refine DO.guarded rfl rfl rfl (q_len uT26 rfl) ?_
   refine DO.guarded rfl rfl rfl (q_move rfl) ?_
   refine DO.guarded rfl rfl rfl (q_mulN (a := 2) (b := (p.next.length * q.next.length)) rfl rfl (by omega)) ?_
   refine DO.guarded rfl rfl rfl (QT.toB (q_gtr rfl rfl) (decide_eq_false (by omega))) ?_
   refine DO.q rfl (q_pick0 rfl rfl) ?_
   refine DO.done ?_
   refine T.cond0 rfl (T.skip (T.s ?_))
   refine T.draws _ [(0, 0), (1, 0), (2, 0), (3, 1), (4, 0), (5, 0), (6, 0), (7, 0), (9, 0), (10, 0), (8, 1), (11, 2), (12, 2), (13, 2), (14, 2), (15, 2), (16, 2), (17, 2)] mixed (drawF_ok (by kernel_rfl)) (Sub.of (List.Sublist.refl _)) (fun _ _ _ h => h) ?_
   refine DO.q rfl (q_la 4 uT28 rfl inf28 rfl rfl rfl) (DO.q rfl (q_fa uT25 rfl inf3 rfl rfl) (DO.q rfl (q_lb 7 uT3 rfl rfl rfl rfl) ?_))
   have hk197 := fun (w1 : World) (hI : Inv w [rowI pb9 pc9 5 1 (byts c9.pre), rowI lb9 lc9 5 1 (byts c9.loop), oI z5 28 (lC l2 kl2), lI 5 l2 kl2, oI z4 28 (lC l kA), lI 5 l kA, oI z2 25 (pC q k2), oI z1 25 (pC p k)] w1) => (haveI := tbz hI; lassoCheckF w1 l kA.pb kA.lb kA.pc kA.lc (hI.atL (U8 := 5) (mG 5 rfl)) hL1 p.vars)
   refine DO.loud rfl rfl (l_call ent35 (CallT.op hk197) rfl ?_)
   clear hk197
   rintro vr O' ⟨N, rfl, rfl, rfl⟩
   refine ⟨Sub.pick [0, 0, 0, 0, 0, 0, 0, 0] rfl, ?_⟩
   by_cases h198 : ((checkLV p.vars l : Nat) : Int) ≠ 0
   ·refine DO.q rfl (QT.toB (q_neq rfl rfl) (decide_eq_true h198)) ?_
    refine DO.q rfl (q_move rfl) (DO.passed rfl rfl rfl (DO.passed rfl rfl rfl (DO.passed rfl rfl rfl (DO.passed rfl rfl rfl ?_))))
    refine DO.passedL (by decide) rfl rfl rfl rfl rfl ?_
    refine DO.passedL (by decide) rfl rfl rfl rfl rfl ?_
    refine DO.passedL (by decide) rfl rfl rfl rfl rfl ?_
    refine DO.last rfl rfl (LT.oq rfl rfl (q_pick1 rfl rfl) ?_)
    refine DO.last rfl rfl (LT.oq rfl rfl (q_move rfl) ?_)
    have hk209 := fun (w1 : World) (hI : Inv w [rowI pb9 pc9 5 1 (byts c9.pre), rowI lb9 lc9 5 1 (byts c9.loop), oI z5 28 (lC l2 kl2), lI 5 l2 kl2, oI z4 28 (lC l kA), lI 5 l kA, oI z2 25 (pC q k2), oI z1 25 (pC p k)] w1) => (haveI := tbz hI; awakeC w1)
    refine DO.lastG rfl rfl rfl rfl (l_call ent12 (CallT.op hk209) rfl ?_)
    clear hk209
    rintro vr O' ⟨N, rfl, rfl, rfl⟩
    refine DO.last rfl rfl (LT.oq rfl rfl (q_pick1 rfl rfl) ?_)
    refine DO.last rfl rfl (LT.oq rfl rfl (q_assign rfl) ?_)
    refine DO.done ?_
    refine T.ret (Res.drop ?_)
    refine Res.one (.bool true) Tryd.results5 rfl ?_
    exact ⟨[], Sub.of (List.nil_sublist _), rfl, rfl⟩
   refine DO.q rfl (QT.toB (q_neq rfl rfl) (decide_eq_false h198)) (DO.q rfl (q_move rfl) ?_)
   refine DO.guarded rfl rfl rfl (q_la 7 uT25 rfl inf25 rfl rfl rfl) ?_
   refine DO.guarded rfl rfl rfl (q_la 4 uT28 rfl inf28 rfl rfl rfl) ?_
   refine DO.guarded rfl rfl rfl (q_la 6 uT25 rfl inf25 rfl rfl rfl) ?_
   refine DO.guarded rfl rfl rfl (q_la 4 uT28 rfl inf28 rfl rfl rfl) ?_
   have hk202 := fun (w1 : World) (hI : Inv w [rowI pb9 pc9 5 1 (byts c9.pre), rowI lb9 lc9 5 1 (byts c9.loop), oI z5 28 (lC l2 kl2), lI 5 l2 kl2, oI z4 28 (lC l kA), lI 5 l kA, oI z2 25 (pC q k2), oI z1 25 (pC p k)] w1) => (haveI := tbz hI; accC w1 p k (hI.atQ h) hB l kA (hI.atL (U8 := 5) (mG 5 rfl)) hL1)
   refine DO.loudG rfl rfl rfl rfl (l_call ent33 (CallT.op hk202) rfl ?_)
   clear hk202
   rintro vr O' ⟨N, rfl, rfl, rfl⟩
   refine ⟨Sub.pick [0, 0, 0, 0, 0, 0, 0, 0] rfl, ?_⟩
   have hk205 := fun (w1 : World) (hI : Inv w [rowI pb9 pc9 5 1 (byts c9.pre), rowI lb9 lc9 5 1 (byts c9.loop), oI z5 28 (lC l2 kl2), lI 5 l2 kl2, oI z4 28 (lC l kA), lI 5 l kA, oI z2 25 (pC q k2), oI z1 25 (pC p k)] w1) => (haveI := tbz hI; accC w1 q k2 (hI.atQ h2) hB2 l kA (hI.atL (U8 := 5) (mG 5 rfl)) hL1)
   refine DO.lastG rfl rfl rfl rfl (l_call ent33 (CallT.op hk205) rfl ?_)
   clear hk205
   rintro vr O' ⟨N, rfl, rfl, rfl⟩
   refine DO.lastG rfl rfl rfl rfl (LT.oq rfl rfl (QT.cast (q_bneq uT4 rfl rfl) (v' := .bool true) (congrArg Value.bool (ac_dif hp hq hvv (by omega) hne))) ?_)
   refine DO.last rfl rfl (LT.oq rfl rfl (q_pick0 rfl rfl) ?_)
   refine DO.last rfl rfl (LT.oq rfl rfl (q_move rfl) ?_)
   have hk209 := fun (w1 : World) (hI : Inv w [rowI pb9 pc9 5 1 (byts c9.pre), rowI lb9 lc9 5 1 (byts c9.loop), oI z5 28 (lC l2 kl2), lI 5 l2 kl2, oI z4 28 (lC l kA), lI 5 l kA, oI z2 25 (pC q k2), oI z1 25 (pC p k)] w1) => (haveI := tbz hI; awakeC w1)
   refine DO.lastG rfl rfl rfl rfl (l_call ent12 (CallT.op hk209) rfl ?_)
   clear hk209
   rintro vr O' ⟨N, rfl, rfl, rfl⟩
   refine DO.last rfl rfl (LT.oq rfl rfl (q_pick1 rfl rfl) ?_)
   refine DO.last rfl rfl (LT.oq rfl rfl (q_assign rfl) ?_)
   refine DO.done ?_
   refine T.ret (Res.drop ?_)
   refine Res.one (.bool true) Tryd.results5 rfl ?_
   exact ⟨[], Sub.of (List.nil_sublist _), rfl, rfl⟩
  refine TO.q (QT.toB (q_eql rfl rfl) (decide_eq_false h119)) (TO.qm rfl (TO.pd rfl rfl (TO.pd rfl rfl (TO.pd rfl rfl (TO.pd rfl rfl (TO.pd rfl rfl (TO.q (q_pick0 rfl rfl) (TO.nl ?_))))))))
  refine T.cond0 rfl (T.skip (T.s (T.s (T.rg (TO.qm rfl (TO.q (q_neq rfl rfl) (TO.nl (T.condP rfl (fun hc => ?_) (fun hc => ?_)))))))))
  ·have hlt128 : checkP q ≠ 0 := by omega
   have hq0 : checkP q ≠ 0 := by omega
   have hDx := di_q hp0 hq0 hD
   have hD1 := hDx.1
   have hD2 := hDx.2.1
   have hl0 := hDx.2.2
   refine T.s (T.rg (TO.qm rfl (TO.qm rfl (TO.q (QT.toB (q_eql rfl rfl) (decide_eq_true (by omega))) (TO.qm rfl (TO.gq rfl rfl (QT.cast (q_move rfl) (v' := .bool false) (congrArg Value.bool hD2)) (TO.gq rfl rfl (q_not rfl) (TO.q (q_pick1 rfl rfl) (TO.qm rfl (TO.gq rfl rfl (q_fa uT28 rfl inf26 rfl rfl) (TO.gq rfl rfl (q_lb 2 uT26 rfl rfl rfl rfl) (TO.gq rfl rfl (q_len uT26 rfl) ?_))))))))))))
   refine TO.gq rfl rfl (QT.toB (q_eql rfl rfl) (decide_eq_true (by omega))) (TO.q (q_pick1 rfl rfl) (TO.qm rfl ?_))
   have hk143 := fun (w1 : World) (hI : Inv w [oI z5 28 (lC l2 kl2), lI 5 l2 kl2, oI z4 28 (lC l kA), lI 5 l kA, oI z2 25 (pC q k2), oI z1 25 (pC p k)] w1) => (haveI := tbz hI; awakeC w1)
   refine TO.gd rfl rfl rfl (l_call ent12 (CallT.op hk143) rfl ?_)
   clear hk143
   rintro vr O' ⟨N, rfl, rfl, rfl⟩
   refine TO.q (q_pick1 rfl rfl) (TO.qa rfl (TO.nl (T.ret (Res.drop ?_))))
   refine Res.one (.bool true) Tryd.results5 rfl ?_
   exact ⟨[], Sub.of (List.nil_sublist _), rfl, rfl⟩
  exact absurd h119 hc
 refine TO.q (QT.toB (q_eql rfl rfl) (decide_eq_false h72)) (TO.q (q_la 5 uT25 rfl inf25 rfl rfl rfl) ?_)
 have hk74 := fun (w1 : World) (hI : Inv w [oI z5 28 (lC l2 kl2), lI 5 l2 kl2, oI z4 28 (lC l kA), lI 5 l kA, oI z2 25 (pC q k2), oI z1 25 (pC p k)] w1) => (haveI := tbz hI; emptyR w1 p k (hI.atQ h) hp)
 refine TO.l rfl (l_call ent31 (CallT.op hk74) rfl ?_)
 clear hk74
 rintro vr O' ⟨N, rfl, bb, rfl, hbb, rfl⟩
 have hbx : decide (e2 = 9) = bb := by
  rcases hWi with ⟨h8, h9⟩ | ⟨h8, h9, _⟩
  ·rw [h8, hbb.2 h9]; rfl
  ·cases hbc : bb
   ·rw [h8]; rfl
   ·exact absurd h9 (hbb.1 hbc)
 refine TO.q (QT.cast (q_bneq uT4 rfl rfl) (v' := .bool false) (congrArg Value.bool (by rw [← hbx, decide_eq_false (by omega)]; rfl))) (TO.qm rfl (TO.gq rfl rfl (q_move rfl) (TO.gq rfl rfl (QT.toB (q_neq rfl rfl) (decide_eq_false (by omega))) (TO.gq rfl rfl (q_move rfl) (TO.pd rfl rfl (TO.pd rfl rfl (TO.gq rfl rfl (q_pick0 rfl rfl) (TO.q (q_pick0 rfl rfl) ?_))))))))
 refine TO.nl (T.cond0 rfl (T.skip (T.s (T.s ?_))))
 obtain ⟨hwit, hcan2, hpre2, hloop2, hlas2, hinf2⟩ : witP p ∧ IsCanon l2 ∧ l2.pre.length ≤ p.next.length ∧ l2.loop.length ≤ 2 * p.next.length ∧ LasOk p l2 ∧ infP p l2.at % 2 = 0 := by
  rcases hWi with h9 | h9
  ·omega
  ·exact h9.2
 have hL2 := las_b hp hlas2 (by omega) (by omega)
 refine T.draws _ [(0, 0), (1, 0), (2, 0), (3, 0), (5, 0), (4, 1), (6, 1), (7, 0), (8, 0), (9, 0), (10, 0), (11, 0), (12, 0), (13, 0), (14, 0), (15, 0), (16, 0), (17, 0), (18, 0), (19, 0), (20, 0), (21, 0), (22, 0), (23, 0), (24, 0), (25, 0), (26, 0), (27, 0), (28, 0), (29, 0), (30, 2), (31, 2), (32, 2), (33, 2)] mixed (drawF_ok (by kernel_rfl)) (Sub.of (List.Sublist.refl _)) (fun _ _ _ h => h) ?_
 refine DO.q rfl (q_move rfl) (DO.q rfl (QT.toB (q_eql rfl rfl) (decide_eq_true (by omega))) (DO.q rfl (q_move rfl) ?_))
 refine DO.guarded rfl rfl rfl (q_la 0 uT28 rfl inf28 rfl rfl rfl) ?_
 refine DO.guarded rfl rfl rfl (q_la 0 uT28 rfl inf28 rfl rfl rfl) ?_
 have hk88 := fun (w1 : World) (hI : Inv w [oI z5 28 (lC l2 kl2), lI 5 l2 kl2, oI z4 28 (lC l kA), lI 5 l kA, oI z2 25 (pC q k2), oI z1 25 (pC p k)] w1) => (haveI := tbz hI; refCanonF w1 l2 kl2.pb kl2.lb kl2.pc kl2.lc (hI.atL (U8 := 5) (mG 1 rfl)) hL2 hcan2.pos)
 refine DO.loudG rfl rfl rfl rfl (l_call ent32 (CallT.op hk88) rfl ?_)
 clear hk88
 rintro vr O' ⟨N, rfl, c9, pb9, lb9, pc9, lc9, rfl, rfl, hsw⟩
 refine ⟨Sub.pick [2, 2, 2, 2, 2, 2] rfl, ?_⟩
 have hk90 := fun (w1 : World) (hI : Inv w [rowI pb9 pc9 5 1 (byts c9.pre), rowI lb9 lc9 5 1 (byts c9.loop), oI z5 28 (lC l2 kl2), lI 5 l2 kl2, oI z4 28 (lC l kA), lI 5 l kA, oI z2 25 (pC q k2), oI z1 25 (pC p k)] w1) => (haveI := tbz hI; (show PureT _ _ _ _ _ from by
   have h9 := isF w1 c9 pb9 lb9 pc9 lc9 (show LaAt w1 c9 pb9 lb9 pc9 lc9 from ⟨hI.slOf (mG 0 rfl), hI.slOf (mG 1 rfl), by have h9 := rowP.cap (hI.row (i := 0) rfl); simpa using h9, by have h9 := rowP.cap (hI.row (i := 1) rfl); simpa using h9⟩) (by have := hsw.pre; have := hL2.pre; omega) (by have := hsw.loop; have := hL2.loop; omega) l2 kl2.pb kl2.lb kl2.pc kl2.lc (hI.atL (U8 := 5) (mG 3 rfl))
   rw [decide_eq_true (canon_same hcan2 hsw)] at h9; exact h9))
 refine DO.loudG rfl rfl rfl rfl (l_call ent24 (CallT.op hk90) rfl ?_)
 clear hk90
 rintro vr O' ⟨N, rfl, rfl, rfl⟩
 refine ⟨Sub.pick [2, 2, 2, 2, 2, 2] rfl, ?_⟩
 refine DO.guarded rfl rfl rfl (q_not rfl) ?_
 refine DO.guarded rfl rfl rfl (q_move rfl) ?_
 refine DO.guarded rfl rfl rfl (q_fa uT28 rfl inf26 rfl rfl) ?_
 refine DO.guarded rfl rfl rfl (q_lb 0 uT26 rfl rfl rfl rfl) ?_
 refine DO.guarded rfl rfl rfl (q_len uT26 rfl) ?_
 refine DO.guarded rfl rfl rfl (q_fa uT25 rfl inf22 rfl rfl) ?_
 refine DO.guarded rfl rfl rfl (q_lb 5 uT22 rfl rfl rfl rfl) ?_
 refine DO.guarded rfl rfl rfl (q_len uT22 rfl) ?_
 refine DO.guarded rfl rfl rfl (QT.toB (q_gtr rfl rfl) (decide_eq_false (by omega))) ?_
 refine DO.guarded rfl rfl rfl (q_pick0 rfl rfl) ?_
 refine DO.guarded rfl rfl rfl (q_move rfl) ?_
 refine DO.guarded rfl rfl rfl (q_fa uT28 rfl inf26 rfl rfl) ?_
 refine DO.guarded rfl rfl rfl (q_lb 0 uT26 rfl rfl rfl rfl) ?_
 refine DO.guarded rfl rfl rfl (q_len uT26 rfl) ?_
 refine DO.guarded rfl rfl rfl (q_fa uT25 rfl inf22 rfl rfl) ?_
 refine DO.guarded rfl rfl rfl (q_lb 5 uT22 rfl rfl rfl rfl) ?_
 refine DO.guarded rfl rfl rfl (q_len uT22 rfl) ?_
 refine DO.guarded rfl rfl rfl (q_mulN (a := 2) (b := p.next.length) rfl rfl (by omega)) ?_
 refine DO.guarded rfl rfl rfl (QT.toB (q_gtr rfl rfl) (decide_eq_false (by omega))) ?_
 refine DO.guarded rfl rfl rfl (q_pick0 rfl rfl) ?_
 refine DO.guarded rfl rfl rfl (q_move rfl) ?_
 refine DO.guarded rfl rfl rfl (q_la 5 uT25 rfl inf25 rfl rfl rfl) ?_
 refine DO.guarded rfl rfl rfl (q_la 0 uT28 rfl inf28 rfl rfl rfl) ?_
 have hk114 := fun (w1 : World) (hI : Inv w [rowI pb9 pc9 5 1 (byts c9.pre), rowI lb9 lc9 5 1 (byts c9.loop), oI z5 28 (lC l2 kl2), lI 5 l2 kl2, oI z4 28 (lC l kA), lI 5 l kA, oI z2 25 (pC q k2), oI z1 25 (pC p k)] w1) => (haveI := tbz hI; (show PureT _ _ _ _ _ from by
   have h9 := accC w1 p k (hI.atQ h) hB l2 kl2 (hI.atL (U8 := 5) (mG 3 rfl)) hL2
   rw [ac_wit hp hlas2 (by omega) (by omega) hinf2] at h9
   exact h9))
 refine DO.lastG rfl rfl rfl rfl (l_call ent33 (CallT.op hk114) rfl ?_)
 clear hk114
 rintro vr O' ⟨N, rfl, rfl, rfl⟩
 refine DO.lastG rfl rfl rfl rfl (LT.oq rfl rfl (q_not rfl) ?_)
 refine DO.lastG rfl rfl rfl rfl (LT.oq rfl rfl (q_pick0 rfl rfl) ?_)
 refine DO.last rfl rfl (LT.oq rfl rfl (q_pick1 rfl rfl) ?_)
 refine DO.sub (O' := [oI z5 28 (lC l2 kl2), lI 5 l2 kl2, oI z4 28 (lC l kA), lI 5 l kA, oI z2 25 (pC q k2), oI z1 25 (pC p k)]) (Sub.pick [2, 2, 2, 2, 2, 2] rfl) ?_
 refine DO.done ?_
 refine T.cond0 rfl (T.skip (T.s (T.s (T.rg (TO.qm rfl ?_)))))
 by_cases h119 : ((checkP q : Nat) : Int) = 0
 ·refine TO.q (QT.toB (q_eql rfl rfl) (decide_eq_true h119)) ?_
  refine TO.qm rfl (TO.gq rfl rfl (q_fa uT25 rfl inf3 rfl rfl) (TO.gq rfl rfl (q_lb 5 uT3 rfl rfl rfl rfl) (TO.gq rfl rfl (q_fa uT25 rfl inf3 rfl rfl) (TO.gq rfl rfl (q_lb 4 uT3 rfl rfl rfl rfl) (TO.gq rfl rfl (q_neq rfl rfl) (TO.q (q_pick1 rfl rfl) (TO.nl (T.condP rfl (fun hc => ?_) (fun hc => ?_)))))))))
  ·have hc126 := hc
   refine T.rg (TO.qa rfl (TO.nl (T.s (T.s (T.rg (TO.qm rfl (TO.q (q_neq rfl rfl) (TO.nl (T.condP rfl (fun hc => ?_) (fun hc => ?_))))))))))
   ·have hlt128 : 7 ≠ 0 := by omega
    have hq0 : checkP q = 0 := by omega
    have hDx := di_7 hp0 hq0 hc126 hD
    have hD1 := hDx.1
    have hD2 := hDx.2.1
    have hl0 := hDx.2.2
    refine T.s (T.rg (TO.qm rfl (TO.qm rfl (TO.q (QT.toB (q_eql rfl rfl) (decide_eq_true (by omega))) (TO.qm rfl (TO.gq rfl rfl (QT.cast (q_move rfl) (v' := .bool false) (congrArg Value.bool hD2)) (TO.gq rfl rfl (q_not rfl) (TO.q (q_pick1 rfl rfl) (TO.qm rfl (TO.gq rfl rfl (q_fa uT28 rfl inf26 rfl rfl) (TO.gq rfl rfl (q_lb 2 uT26 rfl rfl rfl rfl) (TO.gq rfl rfl (q_len uT26 rfl) ?_))))))))))))
    refine TO.gq rfl rfl (QT.toB (q_eql rfl rfl) (decide_eq_true (by omega))) (TO.q (q_pick1 rfl rfl) (TO.qm rfl ?_))
    have hk143 := fun (w1 : World) (hI : Inv w [oI z5 28 (lC l2 kl2), lI 5 l2 kl2, oI z4 28 (lC l kA), lI 5 l kA, oI z2 25 (pC q k2), oI z1 25 (pC p k)] w1) => (haveI := tbz hI; awakeC w1)
    refine TO.gd rfl rfl rfl (l_call ent12 (CallT.op hk143) rfl ?_)
    clear hk143
    rintro vr O' ⟨N, rfl, rfl, rfl⟩
    refine TO.q (q_pick1 rfl rfl) (TO.qa rfl (TO.nl (T.ret (Res.drop ?_))))
    refine Res.one (.bool true) Tryd.results5 rfl ?_
    exact ⟨[], Sub.of (List.nil_sublist _), rfl, rfl⟩
   exact absurd (by decide) hc
  have hc126 := hc
  refine T.skip (T.s (T.s (T.rg (TO.qm rfl (TO.q (q_neq rfl rfl) (TO.nl (T.condP rfl (fun hc => ?_) (fun hc => ?_))))))))
  ·exact absurd h119 hc
  have hge128 : ¬ checkP q ≠ 0 := by omega
  have hq0 : checkP q = 0 := by omega
  have hq := checkP_zero.1 hq0
  have hvv : p.vars = q.vars := Decidable.not_not.1 hc126
  have hdi : diE p q = 0 := diE_zero.2 ⟨hp, hq, hvv⟩
  have hDx := di_ok hdi (by omega) hD
  have hDe := hDx.1
  have hDb := hDx.2.1
  have hDn := hDx.2.2.1
  have hDy := hDx.2.2.2
  refine T.skip (T.s (T.s (T.rg (TO.qm rfl (TO.q (QT.toB (q_neq rfl rfl) (decide_eq_false (by omega))) (TO.qm rfl (TO.gq rfl rfl (q_move rfl) (TO.gq rfl rfl (q_la 5 uT25 rfl inf25 rfl rfl rfl) (TO.gq rfl rfl (q_la 4 uT25 rfl inf25 rfl rfl rfl) ?_)))))))))
  have hk151 := fun (w1 : World) (hI : Inv w [oI z5 28 (lC l2 kl2), lI 5 l2 kl2, oI z4 28 (lC l kA), lI 5 l kA, oI z2 25 (pC q k2), oI z1 25 (pC p k)] w1) => (haveI := tbz hI; differR w1 p k (hI.atQ h) q k2 (hI.atQ h2) hp hq hvv (by omega))
  refine TO.gd rfl rfl rfl (l_call ent34 (CallT.op hk151) rfl ?_)
  clear hk151
  rintro vr O' ⟨N, rfl, b9, rfl, hb9, rfl⟩
  have hbe : b = b9 := by rw [Bool.eq_iff_iff, hDb, hb9]
  refine TO.gq rfl rfl (QT.cast (q_bneq uT4 rfl rfl) (v' := .bool false) (congrArg Value.bool (by rw [hbe]; exact bne_self_eq_false _))) (TO.q (q_pick0 rfl rfl) (TO.nl (T.cond0 rfl (T.skip (T.s (T.rg (TO.q (q_fa uT25 rfl inf22 rfl rfl) (TO.q (q_lb 5 uT22 rfl rfl rfl rfl) (TO.q (q_len uT22 rfl) (TO.q (q_fa uT25 rfl inf22 rfl rfl) (TO.q (q_lb 4 uT22 rfl rfl rfl rfl) (TO.q (q_len uT22 rfl) (TO.q (q_mulN (a := p.next.length) (b := q.next.length) rfl rfl (by omega)) (TO.qa rfl (TO.nl (T.s (T.s (T.rg ?_))))))))))))))))))
  refine TO.qm rfl (TO.q (q_not rfl) (TO.nl (T.condP (p := ¬ b = true) (congrArg Value.bool (by cases b <;> rfl)) (fun hc => ?_) (fun hc => ?_))))
  ·have hbf : b = false := by simpa using hc
   have hlx := nil_lens (hDn hbf)
   have hl1 := hlx.1
   have hl0 := hlx.2
   refine T.s (T.rg (TO.q (q_fa uT28 rfl inf26 rfl rfl) (TO.q (q_lb 2 uT26 rfl rfl rfl rfl) (TO.q (q_len uT26 rfl) (TO.q (q_fa uT28 rfl inf26 rfl rfl) (TO.q (q_lb 2 uT26 rfl rfl rfl rfl) (TO.q (q_len uT26 rfl) (TO.q (q_addN (a := l.pre.length) (b := l.loop.length) rfl rfl (by omega)) (TO.q (QT.toB (q_eql rfl rfl) (decide_eq_true (by omega))) (TO.qm rfl ?_))))))))))
   have hk172 := fun (w1 : World) (hI : Inv w [oI z5 28 (lC l2 kl2), lI 5 l2 kl2, oI z4 28 (lC l kA), lI 5 l kA, oI z2 25 (pC q k2), oI z1 25 (pC p k)] w1) => (haveI := tbz hI; awakeC w1)
   refine TO.gd rfl rfl rfl (l_call ent12 (CallT.op hk172) rfl ?_)
   clear hk172
   rintro vr O' ⟨N, rfl, rfl, rfl⟩
   refine TO.q (q_pick1 rfl rfl) (TO.qa rfl (TO.nl (T.ret (Res.drop ?_))))
   refine Res.one (.bool true) Tryd.results5 rfl ?_
   exact ⟨[], Sub.of (List.nil_sublist _), rfl, rfl⟩
  have hbt : b = true := Decidable.not_not.1 hc
  have hDz := hDy hbt
  have hcan := hDz.1
  have hpre := hDz.2.1
  have hloop := hDz.2.2.1
  have hlas := hDz.2.2.2.1
  have hne := hDz.2.2.2.2
  have hL1 := las_b hp hlas (by omega) (by omega)
  refine T.skip (T.s (T.s ?_))
  refine T.draws _ [(0, 0), (2, 0), (1, 1), (3, 1), (4, 0), (5, 0), (6, 0), (7, 0), (8, 0), (9, 0), (10, 0), (11, 0), (12, 0), (13, 0), (14, 0), (15, 0), (16, 0), (17, 0), (18, 0), (19, 0)] mixed (drawF_ok (by kernel_rfl)) (Sub.of (List.Sublist.refl _)) (fun _ _ _ h => h) ?_
  refine DO.q rfl (q_la 2 uT28 rfl inf28 rfl rfl rfl) (DO.q rfl (q_la 2 uT28 rfl inf28 rfl rfl rfl) ?_)
  have hk175 := fun (w1 : World) (hI : Inv w [oI z5 28 (lC l2 kl2), lI 5 l2 kl2, oI z4 28 (lC l kA), lI 5 l kA, oI z2 25 (pC q k2), oI z1 25 (pC p k)] w1) => (haveI := tbz hI; refCanonF w1 l kA.pb kA.lb kA.pc kA.lc (hI.atL (U8 := 5) (mG 3 rfl)) hL1 hcan.pos)
  refine DO.loud rfl rfl (l_call ent32 (CallT.op hk175) rfl ?_)
  clear hk175
  rintro vr O' ⟨N, rfl, c9, pb9, lb9, pc9, lc9, rfl, rfl, hsw⟩
  refine ⟨Sub.pick [2, 2, 2, 2, 2, 2] rfl, ?_⟩
  have hk177 := fun (w1 : World) (hI : Inv w [rowI pb9 pc9 5 1 (byts c9.pre), rowI lb9 lc9 5 1 (byts c9.loop), oI z5 28 (lC l2 kl2), lI 5 l2 kl2, oI z4 28 (lC l kA), lI 5 l kA, oI z2 25 (pC q k2), oI z1 25 (pC p k)] w1) => (haveI := tbz hI; (show PureT _ _ _ _ _ from by
    have h9 := isF w1 c9 pb9 lb9 pc9 lc9 (show LaAt w1 c9 pb9 lb9 pc9 lc9 from ⟨hI.slOf (mG 0 rfl), hI.slOf (mG 1 rfl), by have h9 := rowP.cap (hI.row (i := 0) rfl); simpa using h9, by have h9 := rowP.cap (hI.row (i := 1) rfl); simpa using h9⟩) (by have := hsw.pre; have := hL1.pre; omega) (by have := hsw.loop; have := hL1.loop; omega) l kA.pb kA.lb kA.pc kA.lc (hI.atL (U8 := 5) (mG 5 rfl))
    rw [decide_eq_true (canon_same hcan hsw)] at h9; exact h9))
  refine DO.loud rfl rfl (l_call ent24 (CallT.op hk177) rfl ?_)
  clear hk177
  rintro vr O' ⟨N, rfl, rfl, rfl⟩
  refine ⟨Sub.pick [2, 2, 2, 2, 2, 2] rfl, ?_⟩
  refine DO.q rfl (q_not rfl) (DO.q rfl (q_move rfl) ?_)
  refine DO.guarded rfl rfl rfl (q_fa uT28 rfl inf26 rfl rfl) ?_
  refine DO.guarded rfl rfl rfl (q_lb 2 uT26 rfl rfl rfl rfl) ?_
  refine DO.guarded rfl rfl rfl (q_len uT26 rfl) ?_
  refine DO.guarded rfl rfl rfl (q_move rfl) ?_
  refine DO.guarded rfl rfl rfl (QT.toB (q_gtr rfl rfl) (decide_eq_false (by omega))) ?_
  refine DO.q rfl (q_pick0 rfl rfl) (DO.q rfl (q_move rfl) ?_)
  refine DO.guarded rfl rfl rfl (q_fa uT28 rfl inf26 rfl rfl) ?_
  refine DO.guarded rfl rfl rfl (q_lb 2 uT26 rfl rfl rfl rfl) ?_
  refine DO.guarded rfl rfl rfl (q_len uT26 rfl) ?_
  refine DO.guarded rfl rfl rfl (q_move rfl) ?_
  refine DO.guarded rfl rfl rfl (q_mulN (a := 2) (b := (p.next.length * q.next.length)) rfl rfl (by omega)) ?_
  refine DO.guarded rfl rfl rfl (QT.toB (q_gtr rfl rfl) (decide_eq_false (by omega))) ?_
  refine DO.q rfl (q_pick0 rfl rfl) ?_
  refine DO.done ?_
  refine T.cond0 rfl (T.skip (T.s ?_))
  refine T.draws _ [(0, 0), (1, 0), (2, 0), (3, 1), (4, 0), (5, 0), (6, 0), (7, 0), (9, 0), (10, 0), (8, 1), (11, 2), (12, 2), (13, 2), (14, 2), (15, 2), (16, 2), (17, 2)] mixed (drawF_ok (by kernel_rfl)) (Sub.of (List.Sublist.refl _)) (fun _ _ _ h => h) ?_
  refine DO.q rfl (q_la 4 uT28 rfl inf28 rfl rfl rfl) (DO.q rfl (q_fa uT25 rfl inf3 rfl rfl) (DO.q rfl (q_lb 7 uT3 rfl rfl rfl rfl) ?_))
  have hk197 := fun (w1 : World) (hI : Inv w [rowI pb9 pc9 5 1 (byts c9.pre), rowI lb9 lc9 5 1 (byts c9.loop), oI z5 28 (lC l2 kl2), lI 5 l2 kl2, oI z4 28 (lC l kA), lI 5 l kA, oI z2 25 (pC q k2), oI z1 25 (pC p k)] w1) => (haveI := tbz hI; lassoCheckF w1 l kA.pb kA.lb kA.pc kA.lc (hI.atL (U8 := 5) (mG 5 rfl)) hL1 p.vars)
  refine DO.loud rfl rfl (l_call ent35 (CallT.op hk197) rfl ?_)
  clear hk197
  rintro vr O' ⟨N, rfl, rfl, rfl⟩
  refine ⟨Sub.pick [0, 0, 0, 0, 0, 0, 0, 0] rfl, ?_⟩
  by_cases h198 : ((checkLV p.vars l : Nat) : Int) ≠ 0
  ·refine DO.q rfl (QT.toB (q_neq rfl rfl) (decide_eq_true h198)) ?_
   refine DO.q rfl (q_move rfl) (DO.passed rfl rfl rfl (DO.passed rfl rfl rfl (DO.passed rfl rfl rfl (DO.passed rfl rfl rfl ?_))))
   refine DO.passedL (by decide) rfl rfl rfl rfl rfl ?_
   refine DO.passedL (by decide) rfl rfl rfl rfl rfl ?_
   refine DO.passedL (by decide) rfl rfl rfl rfl rfl ?_
   refine DO.last rfl rfl (LT.oq rfl rfl (q_pick1 rfl rfl) ?_)
   refine DO.last rfl rfl (LT.oq rfl rfl (q_move rfl) ?_)
   have hk209 := fun (w1 : World) (hI : Inv w [rowI pb9 pc9 5 1 (byts c9.pre), rowI lb9 lc9 5 1 (byts c9.loop), oI z5 28 (lC l2 kl2), lI 5 l2 kl2, oI z4 28 (lC l kA), lI 5 l kA, oI z2 25 (pC q k2), oI z1 25 (pC p k)] w1) => (haveI := tbz hI; awakeC w1)
   refine DO.lastG rfl rfl rfl rfl (l_call ent12 (CallT.op hk209) rfl ?_)
   clear hk209
   rintro vr O' ⟨N, rfl, rfl, rfl⟩
   refine DO.last rfl rfl (LT.oq rfl rfl (q_pick1 rfl rfl) ?_)
   refine DO.last rfl rfl (LT.oq rfl rfl (q_assign rfl) ?_)
   refine DO.done ?_
   refine T.ret (Res.drop ?_)
   refine Res.one (.bool true) Tryd.results5 rfl ?_
   exact ⟨[], Sub.of (List.nil_sublist _), rfl, rfl⟩
  refine DO.q rfl (QT.toB (q_neq rfl rfl) (decide_eq_false h198)) (DO.q rfl (q_move rfl) ?_)
  refine DO.guarded rfl rfl rfl (q_la 7 uT25 rfl inf25 rfl rfl rfl) ?_
  refine DO.guarded rfl rfl rfl (q_la 4 uT28 rfl inf28 rfl rfl rfl) ?_
  refine DO.guarded rfl rfl rfl (q_la 6 uT25 rfl inf25 rfl rfl rfl) ?_
  refine DO.guarded rfl rfl rfl (q_la 4 uT28 rfl inf28 rfl rfl rfl) ?_
  have hk202 := fun (w1 : World) (hI : Inv w [rowI pb9 pc9 5 1 (byts c9.pre), rowI lb9 lc9 5 1 (byts c9.loop), oI z5 28 (lC l2 kl2), lI 5 l2 kl2, oI z4 28 (lC l kA), lI 5 l kA, oI z2 25 (pC q k2), oI z1 25 (pC p k)] w1) => (haveI := tbz hI; accC w1 p k (hI.atQ h) hB l kA (hI.atL (U8 := 5) (mG 5 rfl)) hL1)
  refine DO.loudG rfl rfl rfl rfl (l_call ent33 (CallT.op hk202) rfl ?_)
  clear hk202
  rintro vr O' ⟨N, rfl, rfl, rfl⟩
  refine ⟨Sub.pick [0, 0, 0, 0, 0, 0, 0, 0] rfl, ?_⟩
  have hk205 := fun (w1 : World) (hI : Inv w [rowI pb9 pc9 5 1 (byts c9.pre), rowI lb9 lc9 5 1 (byts c9.loop), oI z5 28 (lC l2 kl2), lI 5 l2 kl2, oI z4 28 (lC l kA), lI 5 l kA, oI z2 25 (pC q k2), oI z1 25 (pC p k)] w1) => (haveI := tbz hI; accC w1 q k2 (hI.atQ h2) hB2 l kA (hI.atL (U8 := 5) (mG 5 rfl)) hL1)
  refine DO.lastG rfl rfl rfl rfl (l_call ent33 (CallT.op hk205) rfl ?_)
  clear hk205
  rintro vr O' ⟨N, rfl, rfl, rfl⟩
  refine DO.lastG rfl rfl rfl rfl (LT.oq rfl rfl (QT.cast (q_bneq uT4 rfl rfl) (v' := .bool true) (congrArg Value.bool (ac_dif hp hq hvv (by omega) hne))) ?_)
  refine DO.last rfl rfl (LT.oq rfl rfl (q_pick0 rfl rfl) ?_)
  refine DO.last rfl rfl (LT.oq rfl rfl (q_move rfl) ?_)
  have hk209 := fun (w1 : World) (hI : Inv w [rowI pb9 pc9 5 1 (byts c9.pre), rowI lb9 lc9 5 1 (byts c9.loop), oI z5 28 (lC l2 kl2), lI 5 l2 kl2, oI z4 28 (lC l kA), lI 5 l kA, oI z2 25 (pC q k2), oI z1 25 (pC p k)] w1) => (haveI := tbz hI; awakeC w1)
  refine DO.lastG rfl rfl rfl rfl (l_call ent12 (CallT.op hk209) rfl ?_)
  clear hk209
  rintro vr O' ⟨N, rfl, rfl, rfl⟩
  refine DO.last rfl rfl (LT.oq rfl rfl (q_pick1 rfl rfl) ?_)
  refine DO.last rfl rfl (LT.oq rfl rfl (q_assign rfl) ?_)
  refine DO.done ?_
  refine T.ret (Res.drop ?_)
  refine Res.one (.bool true) Tryd.results5 rfl ?_
  exact ⟨[], Sub.of (List.nil_sublist _), rfl, rfl⟩
 refine TO.q (QT.toB (q_eql rfl rfl) (decide_eq_false h119)) (TO.qm rfl (TO.pd rfl rfl (TO.pd rfl rfl (TO.pd rfl rfl (TO.pd rfl rfl (TO.pd rfl rfl (TO.q (q_pick0 rfl rfl) (TO.nl ?_))))))))
 refine T.cond0 rfl (T.skip (T.s (T.s (T.rg (TO.qm rfl (TO.q (q_neq rfl rfl) (TO.nl (T.condP rfl (fun hc => ?_) (fun hc => ?_)))))))))
 ·have hlt128 : checkP q ≠ 0 := by omega
  have hq0 : checkP q ≠ 0 := by omega
  have hDx := di_q hp0 hq0 hD
  have hD1 := hDx.1
  have hD2 := hDx.2.1
  have hl0 := hDx.2.2
  refine T.s (T.rg (TO.qm rfl (TO.qm rfl (TO.q (QT.toB (q_eql rfl rfl) (decide_eq_true (by omega))) (TO.qm rfl (TO.gq rfl rfl (QT.cast (q_move rfl) (v' := .bool false) (congrArg Value.bool hD2)) (TO.gq rfl rfl (q_not rfl) (TO.q (q_pick1 rfl rfl) (TO.qm rfl (TO.gq rfl rfl (q_fa uT28 rfl inf26 rfl rfl) (TO.gq rfl rfl (q_lb 2 uT26 rfl rfl rfl rfl) (TO.gq rfl rfl (q_len uT26 rfl) ?_))))))))))))
  refine TO.gq rfl rfl (QT.toB (q_eql rfl rfl) (decide_eq_true (by omega))) (TO.q (q_pick1 rfl rfl) (TO.qm rfl ?_))
  have hk143 := fun (w1 : World) (hI : Inv w [oI z5 28 (lC l2 kl2), lI 5 l2 kl2, oI z4 28 (lC l kA), lI 5 l kA, oI z2 25 (pC q k2), oI z1 25 (pC p k)] w1) => (haveI := tbz hI; awakeC w1)
  refine TO.gd rfl rfl rfl (l_call ent12 (CallT.op hk143) rfl ?_)
  clear hk143
  rintro vr O' ⟨N, rfl, rfl, rfl⟩
  refine TO.q (q_pick1 rfl rfl) (TO.qa rfl (TO.nl (T.ret (Res.drop ?_))))
  refine Res.one (.bool true) Tryd.results5 rfl ?_
  exact ⟨[], Sub.of (List.nil_sublist _), rfl, rfl⟩
 exact absurd h119 hc
end Go.Proofs.YtnikhiohindggaaDoor

