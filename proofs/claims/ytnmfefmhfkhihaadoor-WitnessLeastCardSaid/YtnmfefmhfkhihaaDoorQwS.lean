/- Contracts of functions of the program (QwS): what each call answers and that it leaves memory as it was. Conditions: those each theorem names. -/
import Derived.Test.YtnmfefmhfkhihaaDoorCoreW
import Derived.Test.YtnmfefmhfkhihaaDoorEnd
import Derived.Test.YtnmfefmhfkhihaaDoorWtO
set_option linter.unusedSectionVars false
set_option linter.unusedSimpArgs false
set_option linter.unusedVariables false
set_option linter.unnecessarySimpa false
namespace Go.Proofs.YtnmfefmhfkhihaaDoor
open Go.Lx Go.RowKit
set_option linter.unusedVariables false
set_option linter.unusedSimpArgs false
set_option maxHeartbeats 8000000 in
set_option maxRecDepth 20000 in
theorem leastW (w : World) [Tab Tryd.prog w] (a : DFA) (k : DK) (ha : At w a k) (haa : a.next.length < 9223372036854775807) (haar : ∀ r ∈ a.next, r.length < 9223372036854775807) (haaf : a.final.length < 9223372036854775807) (wb : Option Addr) (wc : Nat) (o : List Nat) (hW : Sl w wb (byts o)) (hwb : o.length < 9223372036854775807) (hw8 : ∀ x ∈ o, x < 256) :
    PureT Tryd.prog 7 [dV a k, .slice wb o.length wc] w fun v N => v = .bool true ∧ N = [] := by
  refine CallT.enter Tryd.func7 rfl Tryd.ntmps7 rfl ?_
  refine T.seq (T.region ?_)
  refine TO.loud rfl (l_box (v := (dV a k)) (cs := (dC a k)) rfl rfl (fun z1 => ?_))
  refine TO.quiet (q_assign rfl) ?_
  refine TO.nil (T.seq (T.seq (T.region ?_)))
  refine TO.quiet (q_load_boxAgg 0 Tryd.underlying25 rfl inf25 rfl rfl rfl) ?_
  have hk11 := fun (w1 : World) (hI : Inv w [oI z1 25 (dC a k)] w1) => (haveI := Inv.tab (P := Tryd.prog) hI; longK w1 a k (hI.atB ha) haa)
  refine TO.loud rfl (l_call ent10 (CallT.of_pure hk11) rfl ?_)
  clear hk11
  rintro vr O' ⟨N, rfl, rfl, rfl⟩
  by_cases hs12 : longD a = true ∨ 12 < a.next.length
  · refine TO.quiet (QT.toB (q_move rfl) (decide_eq_true hs12)) ?_
    refine TO.passed rfl rfl ?_
    refine TO.passed rfl rfl ?_
    refine TO.passed rfl rfl ?_
    refine TO.quiet (q_pick1 rfl rfl) (TO.quiet (q_move rfl) ?_)
    refine TO.passed rfl rfl ?_
    refine TO.passed rfl rfl ?_
    refine TO.quiet (q_pick1 rfl rfl) ?_
    refine TO.nil ?_
    refine T.cond1 rfl ?_
    refine T.seq (T.region ?_)
    have hk21 := fun (w1 : World) (hI : Inv w [oI z1 25 (dC a k)] w1) => (haveI := Inv.tab (P := Tryd.prog) hI; awakeC w1)
    refine TO.loud rfl (l_call ent11 (CallT.of_pure hk21) rfl ?_)
    clear hk21
    rintro vr O' ⟨N, rfl, rfl, rfl⟩
    refine TO.quiet (q_assign rfl) ?_
    refine TO.nil (T.ret (Res.drop ?_))
    refine Res.one (.bool true) Tryd.results7 rfl ?_
    exact ⟨[], Sub.z, rfl, rfl⟩
  refine TO.quiet (QT.toB (q_move rfl) (decide_eq_false hs12)) ?_
  refine TO.guarded rfl rfl rfl (LT.of_quiet rfl rfl (q_move rfl) ?_)
  refine TO.guarded rfl rfl rfl (LT.of_quiet rfl rfl (q_len Tryd.underlying29 rfl) ?_)
  refine TO.guarded rfl rfl rfl (LT.of_quiet rfl rfl (q_gtr rfl rfl) ?_)
  refine TO.quiet (q_pick0 rfl rfl) ?_
  by_cases hs17 : (o.length : Int) > 60
  · refine TO.quiet (QT.toB (q_move rfl) (decide_eq_true hs17)) ?_
    refine TO.passed rfl rfl ?_
    refine TO.passed rfl rfl ?_
    refine TO.quiet (q_pick1 rfl rfl) ?_
    refine TO.nil ?_
    refine T.cond1 rfl ?_
    refine T.seq (T.region ?_)
    have hk21 := fun (w1 : World) (hI : Inv w [oI z1 25 (dC a k)] w1) => (haveI := Inv.tab (P := Tryd.prog) hI; awakeC w1)
    refine TO.loud rfl (l_call ent11 (CallT.of_pure hk21) rfl ?_)
    clear hk21
    rintro vr O' ⟨N, rfl, rfl, rfl⟩
    refine TO.quiet (q_assign rfl) ?_
    refine TO.nil (T.ret (Res.drop ?_))
    refine Res.one (.bool true) Tryd.results7 rfl ?_
    exact ⟨[], Sub.z, rfl, rfl⟩
  refine TO.quiet (QT.toB (q_move rfl) (decide_eq_false hs17)) ?_
  have hk18 := fun (w1 : World) (hI : Inv w [oI z1 25 (dC a k)] w1) => (haveI := Inv.tab (P := Tryd.prog) hI; awakeC w1)
  refine TO.guarded rfl rfl rfl (l_call ent11 (CallT.of_pure hk18) rfl ?_)
  clear hk18
  rintro vr O' ⟨N, rfl, rfl, rfl⟩
  refine TO.guarded rfl rfl rfl (LT.of_quiet rfl rfl (q_not rfl) ?_)
  refine TO.quiet (q_pick0 rfl rfl) ?_
  refine TO.nil ?_
  refine T.cond0 rfl ?_
  refine T.skip (T.seq ?_)
  have sm : Sm a := Sm.of (fun h => hs12 (.inl h)) (by have := fun h => hs12 (.inr h); omega)
  have hn12 := sm.n12
  have hf40 := sm.f40
  refine T.region ?_
  refine TO.quiet (q_load_boxAgg 0 Tryd.underlying25 rfl inf25 rfl rfl rfl) ?_
  have hk24 := fun (w1 : World) (hI : Inv w [oI z1 25 (dC a k)] w1) => (haveI := Inv.tab (P := Tryd.prog) hI; shoC w1 a k (hI.atB ha) haa haar haaf)
  refine TO.loud rfl (l_call ent20 (CallT.of_pure hk24) rfl ?_)
  clear hk24
  rintro vr O' ⟨N, rfl, res1, wb1, wc1, hL1, hn1, rfl, rfl⟩
  refine TO.quiet (q_move rfl) (TO.quiet (q_extract (vs := _) rfl rfl) (TO.quiet (q_extract (vs := _) rfl rfl) (TO.quiet (q_extract (vs := _) rfl rfl) ?_)))
  refine TO.quiet (q_assign rfl) (TO.quiet (q_assign rfl) (TO.quiet (q_assign rfl) ?_))
  refine TO.nil (T.seq (T.region ?_))
  refine TO.quiet (q_load_boxAgg 1 Tryd.underlying25 rfl inf25 rfl rfl rfl) ?_
  have hk30 := fun (w1 : World) (hI : Inv w [rowI wb1 wc1 5 1 (byts (res1.getD [])), oI z1 25 (dC a k)] w1) => (haveI := Inv.tab (P := Tryd.prog) hI; emptyC w1 a k (hI.atB ha) haa haar haaf)
  refine TO.loud rfl (l_call ent30 (CallT.of_pure hk30) rfl ?_)
  clear hk30
  rintro vr O' ⟨N, rfl, be, rfl, rfl, hbey, hben⟩
  have hbe := empty_is hL1 hn1 hbey hben
  refine TO.quiet (q_move rfl) (TO.quiet (q_extract (vs := _) rfl rfl) (TO.quiet (q_extract (vs := _) rfl rfl) (TO.quiet (q_assign rfl) ?_)))
  refine TO.quiet (q_assign rfl) ?_
  refine TO.nil (T.seq (T.seq (T.region ?_)))
  refine TO.quiet (q_move rfl) (TO.quiet (q_neq rfl rfl) ?_)
  refine TO.nil ?_
  refine T.condP rfl (fun hc => ?_) (fun hc => ?_)
  · have hlt34 : checkD a ≠ 0 := by omega
    have hr1 : res1 = none := hn1 (by omega)
    have hbf : be = false := hben (by omega)
    refine T.seq (T.region ?_)
    refine TO.quiet (q_move rfl) (TO.quiet (q_move rfl) (TO.quiet (QT.toB (q_eql rfl rfl) (decide_eq_true rfl)) (TO.quiet (q_move rfl) ?_)))
    refine TO.guarded rfl rfl rfl (LT.of_quiet rfl rfl (q_move rfl) ?_)
    refine TO.guarded rfl rfl rfl (LT.of_quiet rfl rfl (QT.cast (q_not rfl) (v' := .bool true) (by rw [hr1]; rfl)) ?_)
    refine TO.quiet (q_pick1 rfl rfl) (TO.quiet (q_move rfl) ?_)
    refine TO.guarded rfl rfl rfl (LT.of_quiet rfl rfl (q_move rfl) ?_)
    refine TO.guarded rfl rfl rfl (LT.of_quiet rfl rfl (QT.cast (q_not rfl) (v' := .bool true) (by rw [hbf]; rfl)) ?_)
    refine TO.quiet (q_pick1 rfl rfl) (TO.quiet (q_assign rfl) ?_)
    refine TO.nil (T.ret (Res.drop ?_))
    refine Res.one (.bool true) Tryd.results7 rfl ?_
    exact ⟨[], Sub.z, rfl, rfl⟩
  have hge34 : ¬ checkD a ≠ 0 := by omega
  refine T.skip (T.seq (T.seq (T.region ?_)))
  refine TO.quiet (q_move rfl) (TO.quiet (QT.toB (q_neq rfl rfl) (decide_eq_false (by omega))) (TO.quiet (q_move rfl) ?_))
  refine TO.guarded rfl rfl rfl (LT.of_quiet rfl rfl (q_move rfl) ?_)
  refine TO.guarded rfl rfl rfl (LT.of_quiet rfl rfl (q_move rfl) ?_)
  refine TO.guarded rfl rfl rfl (LT.of_quiet rfl rfl (QT.cast (q_beql Tryd.underlying4 rfl rfl) (v' := .bool false) (by rw [hbe, decide_eq_true (show checkD a = 0 by omega)]; cases res1.isSome <;> rfl)) ?_)
  refine TO.quiet (q_pick0 rfl rfl) ?_
  refine TO.nil ?_
  refine T.cond0 rfl ?_
  refine T.skip (T.seq (T.seq (T.region ?_)))
  refine TO.quiet (q_move rfl) (TO.quiet (q_not rfl) ?_)
  refine TO.nil ?_
  refine T.cond rfl (fun hc => ?_) (fun hc => ?_)
  · have hnone : res1 = none := none_of9 hc
    refine T.seq (T.region ?_)
    refine TO.quiet (q_move rfl) (TO.quiet (q_len Tryd.underlying29 rfl) (TO.quiet (QT.toB (q_eql rfl rfl) (decide_eq_true (by rw [hnone]; rfl))) (TO.quiet (q_move rfl) ?_)))
    refine TO.guarded rfl rfl rfl (LT.of_quiet rfl rfl (q_load_boxAgg 1 Tryd.underlying25 rfl inf25 rfl rfl rfl) ?_)
    refine TO.guarded rfl rfl rfl (LT.of_quiet rfl rfl (q_move rfl) ?_)
    have hk61 := fun (w1 : World) (hI : Inv w [rowI wb1 wc1 5 1 (byts (res1.getD [])), oI z1 25 (dC a k)] w1) => (haveI := Inv.tab (P := Tryd.prog) hI; (show PureT _ _ _ _ _ from by
        have h9 := accF w1 a k (hI.atB ha) haa haar haaf wb wc o (hI.sl hW) hwb hw8
        rw [least_none_acc (by have h8 := hL1 (by omega); rw [hnone] at h8; exact h8)] at h9
        exact h9))
    refine TO.guarded rfl rfl rfl (l_call ent34 (CallT.of_pure hk61) rfl ?_)
    clear hk61
    rintro vr O' ⟨N, rfl, rfl, rfl⟩
    refine TO.guarded rfl rfl rfl (LT.of_quiet rfl rfl (q_not rfl) ?_)
    refine TO.quiet (q_pick1 rfl rfl) (TO.quiet (q_assign rfl) ?_)
    refine TO.nil (T.ret (Res.drop ?_))
    refine Res.one (.bool true) Tryd.results7 rfl ?_
    exact ⟨[], Sub.z, rfl, rfl⟩
  obtain ⟨u, hu⟩ := some_of9 hc
  have hLu : LeastA a (some u) := hu ▸ hL1 (by omega)
  have hul := least_lt (checkD_zero.1 (by omega)).toVal hLu
  refine T.skip (T.seq (T.region ?_))
  refine TO.quiet (q_load_boxAgg 1 Tryd.underlying25 rfl inf25 rfl rfl rfl) (TO.quiet (q_move rfl) ?_)
  have hk66 := fun (w1 : World) (hI : Inv w [rowI wb1 wc1 5 1 (byts (res1.getD [])), oI z1 25 (dC a k)] w1) => (haveI := Inv.tab (P := Tryd.prog) hI; (show PureT _ _ _ _ _ from by
      have h9 := accF w1 a k (hI.atB ha) haa haar haaf wb1 wc1 (res1.getD []) (hI.slOf (List.mem_of_getElem? (i := 0) rfl)) (by rw [hu]; show u.length < _; omega) (fun x hx => by rw [hu] at hx; have := Wd.lt64 (checkD_zero.1 (by omega)).toVal hLu.1 x hx; omega)
      rw [(show accV a (res1.getD []) = true by rw [hu]; exact least_acc (checkD_zero.1 (by omega)) hn12 hLu)] at h9
      exact h9))
  refine TO.loud rfl (l_call ent34 (CallT.of_pure hk66) rfl ?_)
  clear hk66
  rintro vr O' ⟨N, rfl, rfl, rfl⟩
  refine TO.quiet (q_move rfl) ?_
  refine TO.guarded rfl rfl rfl (LT.of_quiet rfl rfl (q_move rfl) ?_)
  refine TO.guarded rfl rfl rfl (LT.of_quiet rfl rfl (q_len Tryd.underlying29 rfl) ?_)
  refine TO.guarded rfl rfl rfl (LT.of_quiet rfl rfl (q_fieldAddr Tryd.underlying25 rfl inf22 rfl rfl) ?_)
  refine TO.guarded rfl rfl rfl (LT.of_quiet rfl rfl (q_load_box 1 Tryd.underlying22 rfl rfl rfl rfl) ?_)
  refine TO.guarded rfl rfl rfl (LT.of_quiet rfl rfl (q_len Tryd.underlying22 rfl) ?_)
  refine TO.guarded rfl rfl rfl (LT.of_quiet rfl rfl (QT.toB (q_lss rfl rfl) (decide_eq_true (by rw [hu]; show (u.length : Int) < _; omega))) ?_)
  refine TO.quiet (q_pick1 rfl rfl) (TO.quiet (q_move rfl) ?_)
  refine TO.guarded rfl rfl rfl (LT.of_quiet rfl rfl (q_load_boxAgg 1 Tryd.underlying25 rfl inf25 rfl rfl rfl) ?_)
  refine TO.guarded rfl rfl rfl (LT.of_quiet rfl rfl (q_move rfl) ?_)
  have hk78 := fun (w1 : World) (hI : Inv w [rowI wb1 wc1 5 1 (byts (res1.getD [])), oI z1 25 (dC a k)] w1) => (haveI := Inv.tab (P := Tryd.prog) hI; (show PureT _ _ _ _ _ from by
      have h9 := accF w1 a k (hI.atB ha) haa haar haaf wb wc o (hI.sl hW) hwb hw8
      exact h9))
  refine TO.guarded rfl rfl rfl (l_call ent34 (CallT.of_pure hk78) rfl ?_)
  clear hk78
  rintro vr O' ⟨N, rfl, rfl, rfl⟩
  refine TO.guarded rfl rfl rfl (LT.of_quiet rfl rfl (q_not rfl) ?_)
  by_cases hs80 : ((!(accV a o))) = true
  · refine TO.guarded rfl rfl rfl (LT.of_quiet rfl rfl (QT.toB (q_move rfl) (hs80)) ?_)
    refine TO.passed rfl rfl ?_
    refine TO.passed rfl rfl ?_
    refine TO.passed rfl rfl ?_
    refine TO.passed rfl rfl ?_
    refine TO.guarded rfl rfl rfl (LT.of_quiet rfl rfl (q_pick1 rfl rfl) ?_)
    refine TO.quiet (q_pick1 rfl rfl) (TO.quiet (q_assign rfl) ?_)
    refine TO.nil (T.ret (Res.drop ?_))
    refine Res.one (.bool true) Tryd.results7 rfl ?_
    exact ⟨[], Sub.z, rfl, rfl⟩
  refine TO.guarded rfl rfl rfl (LT.of_quiet rfl rfl (QT.toB (q_move rfl) (Bool.eq_false_iff.2 hs80)) ?_)
  refine TO.guarded rfl rfl rfl (LT.of_quiet rfl rfl (q_move rfl) ?_)
  refine TO.guarded rfl rfl rfl (LT.of_quiet rfl rfl (q_move rfl) ?_)
  have hk83 := fun (w1 : World) (hI : Inv w [rowI wb1 wc1 5 1 (byts (res1.getD [])), oI z1 25 (dC a k)] w1) => (haveI := Inv.tab (P := Tryd.prog) hI; cmpC w1 wb1 wb wc1 wc (res1.getD []) o (hI.slOf (List.mem_of_getElem? (i := 0) rfl)) (hI.sl hW) (by rw [hu]; show u.length < _; omega) hwb)
  refine TO.guarded rfl rfl rfl (l_call ent35 (CallT.of_pure hk83) rfl ?_)
  clear hk83
  rintro vr O' ⟨N, rfl, cc9, rfl, rfl, hcc⟩
  refine TO.guarded rfl rfl rfl (LT.of_quiet rfl rfl (QT.toB (q_leq rfl rfl) (decide_eq_true (by
      have ho9 : accV a o = true := by simpa using hs80
      have h8 := hcc (by rw [hu]; exact Wd.lt64 (checkD_zero.1 (by omega)).toVal hLu.1) (acc_wd ho9)
      have h7 := hLu.2.2 o (acc_word ho9).2.2.1 (acc_word ho9).2.2.2
      rw [hu] at h8
      have h6 : code ((some u).getD []) = code u := rfl
      rw [h6] at h8
      omega))) ?_)
  refine TO.guarded rfl rfl rfl (LT.of_quiet rfl rfl (q_pick0 rfl rfl) ?_)
  refine TO.quiet (q_pick1 rfl rfl) (TO.quiet (q_assign rfl) ?_)
  refine TO.nil (T.ret (Res.drop ?_))
  refine Res.one (.bool true) Tryd.results7 rfl ?_
  exact ⟨[], Sub.z, rfl, rfl⟩
theorem leastLaw (w : World) [Tab Tryd.prog w] (a : DFA) (nba fba : Option Addr) (nca fca : Nat) (vsa : List Value) (ha : DfaAt w a nba vsa fba) (haa : a.next.length < 9223372036854775807) (haar : ∀ r ∈ a.next, r.length < 9223372036854775807) (haaf : a.final.length < 9223372036854775807) (wb : Option Addr) (wc : Nat) (o : List Nat) (hW : Sl w wb (byts o)) (hwb : o.length < 9223372036854775807) (hw8 : ∀ x ∈ o, x < 256) :
    PureT Tryd.prog 7 [.agg (dfaCells a nba nca fba fca).toArray, .slice wb o.length wc] w fun v N => v = .bool true ∧ N = [] := by
  obtain ⟨ja, ga, ea⟩ := ha.dk nca fca
  rw [ea]
  exact leastW w a ja ga haa haar haaf wb wc o hW hwb hw8
end Go.Proofs.YtnmfefmhfkhihaaDoor

