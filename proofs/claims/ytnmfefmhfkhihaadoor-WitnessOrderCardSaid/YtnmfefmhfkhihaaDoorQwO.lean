/- Contracts of functions of the program (QwO): what each call answers and that it leaves memory as it was. Conditions: those each theorem names. -/
import Derived.Test.YtnmfefmhfkhihaaDoorCoreW
import Derived.Test.YtnmfefmhfkhihaaDoorEnd
import Derived.Test.YtnmfefmhfkhihaaDoorWtO
set_option linter.unusedSectionVars false
set_option linter.unusedSimpArgs false
set_option linter.unusedVariables false
set_option linter.unnecessarySimpa false
namespace Go.Proofs.YtnmfefmhfkhihaaDoor
open Go.Lx Go.RowKit
set_option linter.unusedVariables false
set_option linter.unusedSimpArgs false
set_option maxHeartbeats 8000000 in
set_option maxRecDepth 20000 in
theorem orderW (w : World) [Tab Tryd.prog w] (a : DFA) (k : DK) (ha : At w a k) (haa : a.next.length < 9223372036854775807) (haar : ∀ r ∈ a.next, r.length < 9223372036854775807) (haaf : a.final.length < 9223372036854775807) (kk : Nat) (hk : kk < 65536) (wb : Option Addr) (wc : Nat) (o : List Nat) (hW : Sl w wb (byts o)) (hwb : o.length < 9223372036854775807) (hw8 : ∀ x ∈ o, x < 256) :
    PureT Tryd.prog 6 [dV a k, .int .u16 ((kk : Nat) : Int), .slice wb o.length wc] w fun v N => v = .bool true ∧ N = [] := by
  refine CallT.enter Tryd.func6 rfl Tryd.ntmps6 rfl ?_
  have hE1 : nthE a kk = checkD a := nthE_eq (by omega)
  have hE2 : nthE a (kk + 1) = checkD a := nthE_eq (by omega)
  have hl1 := @nthV_len a kk
  have hl2 := @nthV_len a (kk + 1)
  refine T.seq (T.region ?_)
  refine TO.loud rfl (l_box (v := (dV a k)) (cs := (dC a k)) rfl rfl (fun z1 => ?_))
  refine TO.quiet (q_assign rfl) ?_
  refine TO.nil (T.seq (T.seq (T.region ?_)))
  refine TO.quiet (q_load_boxAgg 0 Tryd.underlying25 rfl inf25 rfl rfl rfl) ?_
  have hk18 := fun (w1 : World) (hI : Inv w [oI z1 25 (dC a k)] w1) => (haveI := Inv.tab (P := Tryd.prog) hI; longK w1 a k (hI.atB ha) haa)
  refine TO.loud rfl (l_call ent10 (CallT.of_pure hk18) rfl ?_)
  clear hk18
  rintro vr O' ⟨N, rfl, rfl, rfl⟩
  by_cases hs19 : longD a = true ∨ 12 < a.next.length
  · refine TO.quiet (QT.toB (q_move rfl) (decide_eq_true hs19)) ?_
    refine TO.passed rfl rfl ?_
    refine TO.passed rfl rfl ?_
    refine TO.passed rfl rfl ?_
    refine TO.quiet (q_pick1 rfl rfl) (TO.quiet (q_move rfl) ?_)
    refine TO.passed rfl rfl ?_
    refine TO.passed rfl rfl ?_
    refine TO.quiet (q_pick1 rfl rfl) ?_
    refine TO.nil ?_
    refine T.cond1 rfl ?_
    refine T.seq (T.region ?_)
    have hk28 := fun (w1 : World) (hI : Inv w [oI z1 25 (dC a k)] w1) => (haveI := Inv.tab (P := Tryd.prog) hI; awakeC w1)
    refine TO.loud rfl (l_call ent11 (CallT.of_pure hk28) rfl ?_)
    clear hk28
    rintro vr O' ⟨N, rfl, rfl, rfl⟩
    refine TO.quiet (q_assign rfl) ?_
    refine TO.nil (T.ret (Res.drop ?_))
    refine Res.one (.bool true) Tryd.results6 rfl ?_
    exact ⟨[], Sub.z, rfl, rfl⟩
  refine TO.quiet (QT.toB (q_move rfl) (decide_eq_false hs19)) ?_
  refine TO.guarded rfl rfl rfl (LT.of_quiet rfl rfl (q_move rfl) ?_)
  refine TO.guarded rfl rfl rfl (LT.of_quiet rfl rfl (q_len Tryd.underlying29 rfl) ?_)
  refine TO.guarded rfl rfl rfl (LT.of_quiet rfl rfl (q_gtr rfl rfl) ?_)
  refine TO.quiet (q_pick0 rfl rfl) ?_
  by_cases hs24 : (o.length : Int) > 60
  · refine TO.quiet (QT.toB (q_move rfl) (decide_eq_true hs24)) ?_
    refine TO.passed rfl rfl ?_
    refine TO.passed rfl rfl ?_
    refine TO.quiet (q_pick1 rfl rfl) ?_
    refine TO.nil ?_
    refine T.cond1 rfl ?_
    refine T.seq (T.region ?_)
    have hk28 := fun (w1 : World) (hI : Inv w [oI z1 25 (dC a k)] w1) => (haveI := Inv.tab (P := Tryd.prog) hI; awakeC w1)
    refine TO.loud rfl (l_call ent11 (CallT.of_pure hk28) rfl ?_)
    clear hk28
    rintro vr O' ⟨N, rfl, rfl, rfl⟩
    refine TO.quiet (q_assign rfl) ?_
    refine TO.nil (T.ret (Res.drop ?_))
    refine Res.one (.bool true) Tryd.results6 rfl ?_
    exact ⟨[], Sub.z, rfl, rfl⟩
  refine TO.quiet (QT.toB (q_move rfl) (decide_eq_false hs24)) ?_
  have hk25 := fun (w1 : World) (hI : Inv w [oI z1 25 (dC a k)] w1) => (haveI := Inv.tab (P := Tryd.prog) hI; awakeC w1)
  refine TO.guarded rfl rfl rfl (l_call ent11 (CallT.of_pure hk25) rfl ?_)
  clear hk25
  rintro vr O' ⟨N, rfl, rfl, rfl⟩
  refine TO.guarded rfl rfl rfl (LT.of_quiet rfl rfl (q_not rfl) ?_)
  refine TO.quiet (q_pick0 rfl rfl) ?_
  refine TO.nil ?_
  refine T.cond0 rfl ?_
  refine T.skip (T.seq ?_)
  have sm : Sm a := Sm.of (fun h => hs19 (.inl h)) (by have := fun h => hs19 (.inr h); omega)
  have hn12 := sm.n12
  have hf40 := sm.f40
  refine T.region ?_
  refine TO.quiet (q_load_boxAgg 0 Tryd.underlying25 rfl inf25 rfl rfl rfl) (TO.quiet (q_move rfl) (TO.quiet (q_conv_id Tryd.underlying52 Tryd.underlying26 rfl (wrapU64 (by omega))) ?_))
  have hk33 := fun (w1 : World) (hI : Inv w [oI z1 25 (dC a k)] w1) => (haveI := Inv.tab (P := Tryd.prog) hI; (show PureT _ _ _ _ _ from by
      have h9 := nthC w1 a k (hI.atB ha) haa haar haaf kk
      rw [hE1] at h9
      exact h9))
  refine TO.loud rfl (l_call ent14 (CallT.of_pure hk33) rfl ?_)
  clear hk33
  rintro vr O' ⟨N, rfl, wb1, wc1, rfl, rfl⟩
  refine TO.quiet (q_move rfl) (TO.quiet (q_extract (vs := _) rfl rfl) (TO.quiet (q_extract (vs := _) rfl rfl) (TO.quiet (q_extract (vs := _) rfl rfl) ?_)))
  refine TO.quiet (q_assign rfl) (TO.quiet (q_assign rfl) (TO.quiet (q_assign rfl) ?_))
  refine TO.nil (T.seq (T.region ?_))
  refine TO.quiet (q_load_boxAgg 1 Tryd.underlying25 rfl inf25 rfl rfl rfl) (TO.quiet (q_move rfl) (TO.quiet (q_conv_id Tryd.underlying52 Tryd.underlying26 rfl (wrapU64 (by omega))) (TO.quiet (q_addU (a := kk) (b := 1) .u64 rfl rfl (by show _ < 18446744073709551616; omega)) ?_)))
  have hk42 := fun (w1 : World) (hI : Inv w [rowI wb1 wc1 5 1 (byts ((nthV a kk).getD [])), oI z1 25 (dC a k)] w1) => (haveI := Inv.tab (P := Tryd.prog) hI; (show PureT _ _ _ _ _ from by
      have h9 := nthC w1 a k (hI.atB ha) haa haar haaf (kk + 1)
      rw [hE2] at h9
      exact h9))
  refine TO.loud rfl (l_call ent14 (CallT.of_pure hk42) rfl ?_)
  clear hk42
  rintro vr O' ⟨N, rfl, wb2, wc2, rfl, rfl⟩
  refine TO.quiet (q_move rfl) (TO.quiet (q_extract (vs := _) rfl rfl) (TO.quiet (q_extract (vs := _) rfl rfl) (TO.quiet (q_extract (vs := _) rfl rfl) ?_)))
  refine TO.quiet (q_assign rfl) (TO.quiet (q_assign rfl) (TO.quiet (q_assign rfl) ?_))
  refine TO.nil (T.seq (T.seq (T.region ?_)))
  refine TO.quiet (q_move rfl) (TO.quiet (q_neq rfl rfl) ?_)
  refine TO.nil ?_
  refine T.condP rfl (fun hc => ?_) (fun hc => ?_)
  · have hlt47 : checkD a ≠ 0 := by omega
    refine T.seq (T.region ?_)
    refine TO.quiet (q_move rfl) (TO.quiet (q_move rfl) (TO.quiet (QT.toB (q_eql rfl rfl) (decide_eq_true rfl)) (TO.quiet (q_move rfl) ?_)))
    refine TO.guarded rfl rfl rfl (LT.of_quiet rfl rfl (q_load_boxAgg 2 Tryd.underlying25 rfl inf25 rfl rfl rfl) ?_)
    have hk53 := fun (w1 : World) (hI : Inv w [rowI wb2 wc2 5 1 (byts ((nthV a (kk + 1)).getD [])), rowI wb1 wc1 5 1 (byts ((nthV a kk).getD [])), oI z1 25 (dC a k)] w1) => (haveI := Inv.tab (P := Tryd.prog) hI; subsetCheck w1 a k.nb k.fb k.nc k.fc (vals k.qs) (hI.dfa ha) haa haar haaf)
    refine TO.guarded rfl rfl rfl (l_call ent33 (CallT.of_pure hk53) rfl ?_)
    clear hk53
    rintro vr O' ⟨N, rfl, rfl, rfl⟩
    refine TO.guarded rfl rfl rfl (LT.of_quiet rfl rfl (q_move rfl) ?_)
    refine TO.guarded rfl rfl rfl (LT.of_quiet rfl rfl (QT.toB (q_eql rfl rfl) (decide_eq_true rfl)) ?_)
    refine TO.quiet (q_pick1 rfl rfl) (TO.quiet (q_assign rfl) ?_)
    refine TO.nil (T.ret (Res.drop ?_))
    refine Res.one (.bool true) Tryd.results6 rfl ?_
    exact ⟨[], Sub.z, rfl, rfl⟩
  have hge47 : ¬ checkD a ≠ 0 := by omega
  refine T.skip (T.seq (T.seq ?_))
  have he0 : checkD a = 0 := by omega
  refine T.region ?_
  refine TO.quiet (q_move rfl) (TO.quiet (QT.toB (q_neq rfl rfl) (decide_eq_false (by omega))) (TO.quiet (q_move rfl) ?_))
  refine TO.guarded rfl rfl rfl (LT.of_quiet rfl rfl (q_move rfl) ?_)
  by_cases hs61 : ((nthV a (kk + 1)).isSome) = true
  · refine TO.guarded rfl rfl rfl (LT.of_quiet rfl rfl (QT.toB (q_move rfl) (hs61)) ?_)
    refine TO.guarded rfl rfl rfl (LT.of_quiet rfl rfl (QT.toB (q_move rfl) (ord_more he0 (by omega) hs61)) ?_)
    refine TO.guarded rfl rfl rfl (LT.of_quiet rfl rfl (q_not rfl) ?_)
    refine TO.guarded rfl rfl rfl (LT.of_quiet rfl rfl (q_pick1 rfl rfl) ?_)
    refine TO.quiet (q_pick0 rfl rfl) ?_
    refine TO.nil ?_
    refine T.cond0 rfl ?_
    refine T.skip (T.seq (T.region ?_))
    refine TO.quiet (q_load_boxAgg 2 Tryd.underlying25 rfl inf25 rfl rfl rfl) (TO.quiet (q_move rfl) ?_)
    have hk68 := fun (w1 : World) (hI : Inv w [rowI wb2 wc2 5 1 (byts ((nthV a (kk + 1)).getD [])), rowI wb1 wc1 5 1 (byts ((nthV a kk).getD [])), oI z1 25 (dC a k)] w1) => (haveI := Inv.tab (P := Tryd.prog) hI; (show PureT _ _ _ _ _ from by
        have h9 := accF w1 a k (hI.atB ha) haa haar haaf wb wc o (hI.sl hW) hwb hw8
        exact h9))
    refine TO.loud rfl (l_call ent34 (CallT.of_pure hk68) rfl ?_)
    clear hk68
    rintro vr O' ⟨N, rfl, rfl, rfl⟩
    refine TO.quiet (q_assign rfl) ?_
    refine TO.nil (T.seq (T.seq (T.region ?_)))
    refine TO.quiet (QT.toB (q_move rfl) (ord_more he0 (by omega) hs61)) (TO.quiet (q_not rfl) ?_)
    refine TO.nil ?_
    refine T.cond0 rfl ?_
    refine T.skip (T.seq (T.seq ?_))
    have hu : nthV a kk = some ((nthV a kk).getD []) := some_getD (ord_more he0 (by omega) hs61)
    have hv2 : nthV a (kk + 1) = some ((nthV a (kk + 1)).getD []) := some_getD hs61
    refine T.region ?_
    refine TO.quiet (q_load_boxAgg 2 Tryd.underlying25 rfl inf25 rfl rfl rfl) (TO.quiet (q_move rfl) ?_)
    have hk83 := fun (w1 : World) (hI : Inv w [rowI wb2 wc2 5 1 (byts ((nthV a (kk + 1)).getD [])), rowI wb1 wc1 5 1 (byts ((nthV a kk).getD [])), oI z1 25 (dC a k)] w1) => (haveI := Inv.tab (P := Tryd.prog) hI; (show PureT _ _ _ _ _ from by
        have h9 := accF w1 a k (hI.atB ha) haa haar haaf wb1 wc1 ((nthV a kk).getD []) (hI.slOf (List.mem_of_getElem? (i := 1) rfl)) (by omega) (fun x hx => by have := nth_wd he0 (by omega) hu x hx; omega)
        rw [(show accV a ((nthV a kk).getD []) = true from nth_acc he0 (by omega) hu)] at h9
        exact h9))
    refine TO.loud rfl (l_call ent34 (CallT.of_pure hk83) rfl ?_)
    clear hk83
    rintro vr O' ⟨N, rfl, rfl, rfl⟩
    refine TO.quiet (q_not rfl) (TO.quiet (q_move rfl) ?_)
    refine TO.guarded rfl rfl rfl (LT.of_quiet rfl rfl (QT.toB (q_move rfl) (hs61)) ?_)
    refine TO.guarded rfl rfl rfl (LT.of_quiet rfl rfl (q_move rfl) ?_)
    refine TO.guarded rfl rfl rfl (LT.of_quiet rfl rfl (q_load_boxAgg 2 Tryd.underlying25 rfl inf25 rfl rfl rfl) ?_)
    refine TO.guarded rfl rfl rfl (LT.of_quiet rfl rfl (q_move rfl) ?_)
    have hk90 := fun (w1 : World) (hI : Inv w [rowI wb2 wc2 5 1 (byts ((nthV a (kk + 1)).getD [])), rowI wb1 wc1 5 1 (byts ((nthV a kk).getD [])), oI z1 25 (dC a k)] w1) => (haveI := Inv.tab (P := Tryd.prog) hI; (show PureT _ _ _ _ _ from by
        have h9 := accF w1 a k (hI.atB ha) haa haar haaf wb2 wc2 ((nthV a (kk + 1)).getD []) (hI.slOf (List.mem_of_getElem? (i := 0) rfl)) (by omega) (fun x hx => by have := nth_wd he0 (by omega) hv2 x hx; omega)
        rw [(show accV a ((nthV a (kk + 1)).getD []) = true from nth_acc he0 (by omega) hv2)] at h9
        exact h9))
    refine TO.guarded rfl rfl rfl (l_call ent34 (CallT.of_pure hk90) rfl ?_)
    clear hk90
    rintro vr O' ⟨N, rfl, rfl, rfl⟩
    refine TO.guarded rfl rfl rfl (LT.of_quiet rfl rfl (q_not rfl) ?_)
    refine TO.guarded rfl rfl rfl (LT.of_quiet rfl rfl (q_move rfl) ?_)
    refine TO.guarded rfl rfl rfl (LT.of_quiet rfl rfl (q_move rfl) ?_)
    refine TO.guarded rfl rfl rfl (LT.of_quiet rfl rfl (q_move rfl) ?_)
    have hk95 := fun (w1 : World) (hI : Inv w [rowI wb2 wc2 5 1 (byts ((nthV a (kk + 1)).getD [])), rowI wb1 wc1 5 1 (byts ((nthV a kk).getD [])), oI z1 25 (dC a k)] w1) => (haveI := Inv.tab (P := Tryd.prog) hI; cmpC w1 wb1 wb2 wc1 wc2 ((nthV a kk).getD []) ((nthV a (kk + 1)).getD []) (hI.slOf (List.mem_of_getElem? (i := 1) rfl)) (hI.slOf (List.mem_of_getElem? (i := 0) rfl)) (by omega) (by omega))
    refine TO.guarded rfl rfl rfl (l_call ent35 (CallT.of_pure hk95) rfl ?_)
    clear hk95
    rintro vr O' ⟨N, rfl, c1, rfl, rfl, hc1⟩
    refine TO.guarded rfl rfl rfl (LT.of_quiet rfl rfl (QT.toB (q_geq rfl rfl) (decide_eq_false (by
        have h8 := (hc1 (nth_wd he0 (by omega) hu) (nth_wd he0 (by omega) hv2)).1.2 (nth_lt he0 (by omega) hu hv2)
        omega))) ?_)
    refine TO.guarded rfl rfl rfl (LT.of_quiet rfl rfl (q_pick0 rfl rfl) ?_)
    refine TO.guarded rfl rfl rfl (LT.of_quiet rfl rfl (q_pick1 rfl rfl) ?_)
    refine TO.quiet (q_pick0 rfl rfl) ?_
    refine TO.nil ?_
    refine T.cond0 rfl ?_
    refine T.skip (T.seq (T.region ?_))
    refine TO.quiet (q_move rfl) (TO.quiet (q_move rfl) ?_)
    have hk102 := fun (w1 : World) (hI : Inv w [rowI wb2 wc2 5 1 (byts ((nthV a (kk + 1)).getD [])), rowI wb1 wc1 5 1 (byts ((nthV a kk).getD [])), oI z1 25 (dC a k)] w1) => (haveI := Inv.tab (P := Tryd.prog) hI; cmpC w1 wb wb1 wc wc1 o ((nthV a kk).getD []) (hI.sl hW) (hI.slOf (List.mem_of_getElem? (i := 1) rfl)) hwb (by omega))
    refine TO.loud rfl (l_call ent35 (CallT.of_pure hk102) rfl ?_)
    clear hk102
    rintro vr O' ⟨N, rfl, c2, rfl, rfl, hc2⟩
    refine TO.quiet (q_assign rfl) ?_
    refine TO.nil (T.seq (T.seq (T.region ?_)))
    refine TO.quiet (q_move rfl) ?_
    by_cases hs104 : (accV a o) = true
    · refine TO.quiet (QT.toB (q_move rfl) (hs104)) ?_
      refine TO.guarded rfl rfl rfl (LT.of_quiet rfl rfl (q_move rfl) ?_)
      refine TO.guarded rfl rfl rfl (LT.of_quiet rfl rfl (q_gtr rfl rfl) ?_)
      refine TO.quiet (q_pick1 rfl rfl) ?_
      by_cases hs108 : c2 > 0
      · refine TO.quiet (QT.toB (q_move rfl) (decide_eq_true hs108)) ?_
        refine TO.guarded rfl rfl rfl (LT.of_quiet rfl rfl (QT.toB (q_move rfl) (hs61)) ?_)
        refine TO.guarded rfl rfl rfl (LT.of_quiet rfl rfl (q_not rfl) ?_)
        refine TO.guarded rfl rfl rfl (LT.of_quiet rfl rfl (q_move rfl) ?_)
        refine TO.guarded rfl rfl rfl (LT.of_quiet rfl rfl (q_move rfl) ?_)
        refine TO.guarded rfl rfl rfl (LT.of_quiet rfl rfl (q_move rfl) ?_)
        have hk114 := fun (w1 : World) (hI : Inv w [rowI wb2 wc2 5 1 (byts ((nthV a (kk + 1)).getD [])), rowI wb1 wc1 5 1 (byts ((nthV a kk).getD [])), oI z1 25 (dC a k)] w1) => (haveI := Inv.tab (P := Tryd.prog) hI; cmpC w1 wb wb2 wc wc2 o ((nthV a (kk + 1)).getD []) (hI.sl hW) (hI.slOf (List.mem_of_getElem? (i := 0) rfl)) hwb (by omega))
        refine TO.guarded rfl rfl rfl (l_call ent35 (CallT.of_pure hk114) rfl ?_)
        clear hk114
        rintro vr O' ⟨N, rfl, c3, rfl, rfl, hc3⟩
        refine TO.guarded rfl rfl rfl (LT.of_quiet rfl rfl (QT.toB (q_lss rfl rfl) (decide_eq_false (by
            have h8 := (hc2 (acc_wd hs104) (nth_wd he0 (by omega) hu)).2.1 (by omega)
            obtain ⟨v9, h7, h6⟩ := nth_gap he0 (by omega) hu hs104 h8
            have h5 : v9 = ((nthV a (kk + 1)).getD []) := Option.some.inj (h7.symm.trans hv2)
            have h4 := hc3 (acc_wd hs104) (nth_wd he0 (by omega) hv2)
            rw [h5] at h6
            omega))) ?_)
        refine TO.guarded rfl rfl rfl (LT.of_quiet rfl rfl (q_pick0 rfl rfl) ?_)
        refine TO.quiet (q_pick1 rfl rfl) ?_
        refine TO.nil ?_
        refine T.cond0 rfl ?_
        refine T.skip (T.seq (T.seq (T.region ?_)))
        refine TO.quiet (q_move rfl) (TO.quiet (q_gtr rfl rfl) ?_)
        refine TO.nil ?_
        refine T.condP rfl (fun hc => ?_) (fun hc => ?_)
        · have hlt119 : kk > 30 := by omega
          refine T.seq (T.region ?_)
          refine TO.quiet (q_assign rfl) ?_
          refine TO.nil (T.ret (Res.drop ?_))
          refine Res.one (.bool true) Tryd.results6 rfl ?_
          exact ⟨[], Sub.z, rfl, rfl⟩
        have hge119 : ¬ kk > 30 := by omega
        refine T.skip (T.seq (T.region ?_))
        refine TO.quiet (q_load_boxAgg 2 Tryd.underlying25 rfl inf25 rfl rfl rfl) (TO.quiet (q_move rfl) (TO.quiet (q_conv_id Tryd.underlying52 Tryd.underlying3 rfl (wrap64_id ⟨by omega, by omega⟩)) (TO.quiet (QT.cast (q_add64 rfl rfl (by omega)) (v' := .int .i64 ((kk + 1 : Nat) : Int)) (congrArg (Value.int .i64) (by omega))) ?_)))
        have hk125 := fun (w1 : World) (hI : Inv w [rowI wb2 wc2 5 1 (byts ((nthV a (kk + 1)).getD [])), rowI wb1 wc1 5 1 (byts ((nthV a kk).getD [])), oI z1 25 (dC a k)] w1) => (haveI := Inv.tab (P := Tryd.prog) hI; wdsC w1 a k (hI.atB ha) haa haar haaf ((kk + 1 : Nat) : Int))
        refine TO.loud rfl (l_call ent15 (CallT.of_pure hk125) rfl ?_)
        clear hk125
        rintro vr O' ⟨N, rfl, ws1, lb1, lc1, hw1, rfl, rfl⟩
        refine TO.quiet (q_move rfl) (TO.quiet (q_extract (vs := _) rfl rfl) (TO.quiet (q_extract (vs := _) rfl rfl) (TO.quiet (q_assign rfl) ?_)))
        refine TO.quiet (q_assign rfl) ?_
        refine TO.nil (T.seq ?_)
        have hWA := wds_at he0 (by omega) hu hw1
        have hq9 := hWA.2.2.1
        have hq9x := hWA.2.2.2
        refine T.region ?_
        refine TO.quiet (q_move rfl) (TO.quiet (QT.toB (q_eql rfl rfl) (decide_eq_true (by rw [hWA.1]; rfl))) (TO.quiet (q_move rfl) ?_))
        refine TO.guarded rfl rfl rfl (LT.of_quiet rfl rfl (q_move rfl) ?_)
        refine TO.guarded rfl rfl rfl (LT.of_quiet rfl rfl (q_len Tryd.underlying33 rfl) ?_)
        refine TO.guarded rfl rfl rfl (LT.of_quiet rfl rfl (q_move rfl) ?_)
        refine TO.guarded rfl rfl rfl (LT.of_quiet rfl rfl (q_conv_id Tryd.underlying52 Tryd.underlying3 rfl (wrap64_id ⟨by omega, by omega⟩)) ?_)
        refine TO.guarded rfl rfl rfl (LT.of_quiet rfl rfl (QT.cast (q_add64 rfl rfl (by omega)) (v' := .int .i64 ((kk + 1 : Nat) : Int)) (congrArg (Value.int .i64) (by omega))) ?_)
        refine TO.guarded rfl rfl rfl (LT.of_quiet rfl rfl (QT.toB (q_eql rfl rfl) (decide_eq_true (by have := hWA.2.1; omega))) ?_)
        refine TO.quiet (q_pick1 rfl rfl) (TO.quiet (q_move rfl) ?_)
        refine TO.guarded rfl rfl rfl (LT.of_quiet rfl rfl (q_move rfl) ?_)
        refine TO.guarded rfl rfl rfl (LT.of_quiet rfl rfl (q_move rfl) ?_)
        refine TO.guarded rfl rfl rfl (LT.of_quiet rfl rfl (q_conv_id Tryd.underlying52 Tryd.underlying3 rfl (wrap64_id ⟨by omega, by omega⟩)) ?_)
        refine TO.guarded rfl rfl rfl (LT.of_quiet rfl rfl (q_ix (i := kk) Tryd.underlying33 inf29 rfl rfl (fun w9 hI9 => (wlO hI9 (T2 := 29) (T1 := 5) (ws := ws1) (List.mem_of_getElem? (i := 0) rfl)).1) (by have := hWA.2.1; omega) (by rw [List.length_map]; have := hWA.2.1; omega)) ?_)
        refine TO.guarded rfl rfl rfl (LT.of_quiet rfl rfl (q_ld Tryd.underlying29 rfl rfl (fun w9 hI9 => (wlO hI9 (T2 := 29) (T1 := 5) (ws := ws1) (List.mem_of_getElem? (i := 0) rfl)).1) (wvals_get hq9)) ?_)
        refine TO.guarded rfl rfl rfl (LT.of_quiet rfl rfl (q_move rfl) ?_)
        have hk145 := fun (w1 : World) (hI : Inv w [wlI 29 5 lb1 lc1 ws1, rowI wb2 wc2 5 1 (byts ((nthV a (kk + 1)).getD [])), rowI wb1 wc1 5 1 (byts ((nthV a kk).getD [])), oI z1 25 (dC a k)] w1) => (haveI := Inv.tab (P := Tryd.prog) hI; (show PureT _ _ _ _ _ from by
            have h9 := equalBytes w1 (wAt ws1 kk).b wb1 (wAt ws1 kk).c wc1 (wAt ws1 kk).xs ((nthV a kk).getD []) ((wlO hI (T2 := 29) (T1 := 5) (ws := ws1) (List.mem_of_getElem? (i := 0) rfl)).2 (wAt ws1 kk) (List.mem_of_getElem? hq9)) (hI.slOf (List.mem_of_getElem? (i := 2) rfl)) (by rw [hq9x]; omega)
            rw [decide_eq_true (show (wAt ws1 kk).xs = ((nthV a kk).getD []) from hq9x)] at h9
            exact h9))
        refine TO.guarded rfl rfl rfl (l_call ent16 (CallT.of_pure hk145) rfl ?_)
        clear hk145
        rintro vr O' ⟨N, rfl, rfl, rfl⟩
        refine TO.quiet (q_pick1 rfl rfl) (TO.quiet (q_assign rfl) ?_)
        refine TO.nil (T.ret (Res.drop ?_))
        refine Res.one (.bool true) Tryd.results6 rfl ?_
        exact ⟨[], Sub.z, rfl, rfl⟩
      refine TO.quiet (QT.toB (q_move rfl) (decide_eq_false hs108)) ?_
      refine TO.passed rfl rfl ?_
      refine TO.passed rfl rfl ?_
      refine TO.passed rfl rfl ?_
      refine TO.passed rfl rfl ?_
      refine TO.passed rfl rfl ?_
      refine TO.passed rfl rfl ?_
      refine TO.passed rfl rfl ?_
      refine TO.passed rfl rfl ?_
      refine TO.quiet (q_pick0 rfl rfl) ?_
      refine TO.nil ?_
      refine T.cond0 rfl ?_
      refine T.skip (T.seq (T.seq (T.region ?_)))
      refine TO.quiet (q_move rfl) (TO.quiet (q_gtr rfl rfl) ?_)
      refine TO.nil ?_
      refine T.condP rfl (fun hc => ?_) (fun hc => ?_)
      · have hlt119 : kk > 30 := by omega
        refine T.seq (T.region ?_)
        refine TO.quiet (q_assign rfl) ?_
        refine TO.nil (T.ret (Res.drop ?_))
        refine Res.one (.bool true) Tryd.results6 rfl ?_
        exact ⟨[], Sub.z, rfl, rfl⟩
      have hge119 : ¬ kk > 30 := by omega
      refine T.skip (T.seq (T.region ?_))
      refine TO.quiet (q_load_boxAgg 2 Tryd.underlying25 rfl inf25 rfl rfl rfl) (TO.quiet (q_move rfl) (TO.quiet (q_conv_id Tryd.underlying52 Tryd.underlying3 rfl (wrap64_id ⟨by omega, by omega⟩)) (TO.quiet (QT.cast (q_add64 rfl rfl (by omega)) (v' := .int .i64 ((kk + 1 : Nat) : Int)) (congrArg (Value.int .i64) (by omega))) ?_)))
      have hk125 := fun (w1 : World) (hI : Inv w [rowI wb2 wc2 5 1 (byts ((nthV a (kk + 1)).getD [])), rowI wb1 wc1 5 1 (byts ((nthV a kk).getD [])), oI z1 25 (dC a k)] w1) => (haveI := Inv.tab (P := Tryd.prog) hI; wdsC w1 a k (hI.atB ha) haa haar haaf ((kk + 1 : Nat) : Int))
      refine TO.loud rfl (l_call ent15 (CallT.of_pure hk125) rfl ?_)
      clear hk125
      rintro vr O' ⟨N, rfl, ws1, lb1, lc1, hw1, rfl, rfl⟩
      refine TO.quiet (q_move rfl) (TO.quiet (q_extract (vs := _) rfl rfl) (TO.quiet (q_extract (vs := _) rfl rfl) (TO.quiet (q_assign rfl) ?_)))
      refine TO.quiet (q_assign rfl) ?_
      refine TO.nil (T.seq ?_)
      have hWA := wds_at he0 (by omega) hu hw1
      have hq9 := hWA.2.2.1
      have hq9x := hWA.2.2.2
      refine T.region ?_
      refine TO.quiet (q_move rfl) (TO.quiet (QT.toB (q_eql rfl rfl) (decide_eq_true (by rw [hWA.1]; rfl))) (TO.quiet (q_move rfl) ?_))
      refine TO.guarded rfl rfl rfl (LT.of_quiet rfl rfl (q_move rfl) ?_)
      refine TO.guarded rfl rfl rfl (LT.of_quiet rfl rfl (q_len Tryd.underlying33 rfl) ?_)
      refine TO.guarded rfl rfl rfl (LT.of_quiet rfl rfl (q_move rfl) ?_)
      refine TO.guarded rfl rfl rfl (LT.of_quiet rfl rfl (q_conv_id Tryd.underlying52 Tryd.underlying3 rfl (wrap64_id ⟨by omega, by omega⟩)) ?_)
      refine TO.guarded rfl rfl rfl (LT.of_quiet rfl rfl (QT.cast (q_add64 rfl rfl (by omega)) (v' := .int .i64 ((kk + 1 : Nat) : Int)) (congrArg (Value.int .i64) (by omega))) ?_)
      refine TO.guarded rfl rfl rfl (LT.of_quiet rfl rfl (QT.toB (q_eql rfl rfl) (decide_eq_true (by have := hWA.2.1; omega))) ?_)
      refine TO.quiet (q_pick1 rfl rfl) (TO.quiet (q_move rfl) ?_)
      refine TO.guarded rfl rfl rfl (LT.of_quiet rfl rfl (q_move rfl) ?_)
      refine TO.guarded rfl rfl rfl (LT.of_quiet rfl rfl (q_move rfl) ?_)
      refine TO.guarded rfl rfl rfl (LT.of_quiet rfl rfl (q_conv_id Tryd.underlying52 Tryd.underlying3 rfl (wrap64_id ⟨by omega, by omega⟩)) ?_)
      refine TO.guarded rfl rfl rfl (LT.of_quiet rfl rfl (q_ix (i := kk) Tryd.underlying33 inf29 rfl rfl (fun w9 hI9 => (wlO hI9 (T2 := 29) (T1 := 5) (ws := ws1) (List.mem_of_getElem? (i := 0) rfl)).1) (by have := hWA.2.1; omega) (by rw [List.length_map]; have := hWA.2.1; omega)) ?_)
      refine TO.guarded rfl rfl rfl (LT.of_quiet rfl rfl (q_ld Tryd.underlying29 rfl rfl (fun w9 hI9 => (wlO hI9 (T2 := 29) (T1 := 5) (ws := ws1) (List.mem_of_getElem? (i := 0) rfl)).1) (wvals_get hq9)) ?_)
      refine TO.guarded rfl rfl rfl (LT.of_quiet rfl rfl (q_move rfl) ?_)
      have hk145 := fun (w1 : World) (hI : Inv w [wlI 29 5 lb1 lc1 ws1, rowI wb2 wc2 5 1 (byts ((nthV a (kk + 1)).getD [])), rowI wb1 wc1 5 1 (byts ((nthV a kk).getD [])), oI z1 25 (dC a k)] w1) => (haveI := Inv.tab (P := Tryd.prog) hI; (show PureT _ _ _ _ _ from by
          have h9 := equalBytes w1 (wAt ws1 kk).b wb1 (wAt ws1 kk).c wc1 (wAt ws1 kk).xs ((nthV a kk).getD []) ((wlO hI (T2 := 29) (T1 := 5) (ws := ws1) (List.mem_of_getElem? (i := 0) rfl)).2 (wAt ws1 kk) (List.mem_of_getElem? hq9)) (hI.slOf (List.mem_of_getElem? (i := 2) rfl)) (by rw [hq9x]; omega)
          rw [decide_eq_true (show (wAt ws1 kk).xs = ((nthV a kk).getD []) from hq9x)] at h9
          exact h9))
      refine TO.guarded rfl rfl rfl (l_call ent16 (CallT.of_pure hk145) rfl ?_)
      clear hk145
      rintro vr O' ⟨N, rfl, rfl, rfl⟩
      refine TO.quiet (q_pick1 rfl rfl) (TO.quiet (q_assign rfl) ?_)
      refine TO.nil (T.ret (Res.drop ?_))
      refine Res.one (.bool true) Tryd.results6 rfl ?_
      exact ⟨[], Sub.z, rfl, rfl⟩
    refine TO.quiet (QT.toB (q_move rfl) (Bool.eq_false_iff.2 hs104)) ?_
    refine TO.passed rfl rfl ?_
    refine TO.passed rfl rfl ?_
    refine TO.quiet (q_pick0 rfl rfl) (TO.quiet (q_move rfl) ?_)
    refine TO.passed rfl rfl ?_
    refine TO.passed rfl rfl ?_
    refine TO.passed rfl rfl ?_
    refine TO.passed rfl rfl ?_
    refine TO.passed rfl rfl ?_
    refine TO.passed rfl rfl ?_
    refine TO.passed rfl rfl ?_
    refine TO.passed rfl rfl ?_
    refine TO.quiet (q_pick0 rfl rfl) ?_
    refine TO.nil ?_
    refine T.cond0 rfl ?_
    refine T.skip (T.seq (T.seq (T.region ?_)))
    refine TO.quiet (q_move rfl) (TO.quiet (q_gtr rfl rfl) ?_)
    refine TO.nil ?_
    refine T.condP rfl (fun hc => ?_) (fun hc => ?_)
    · have hlt119 : kk > 30 := by omega
      refine T.seq (T.region ?_)
      refine TO.quiet (q_assign rfl) ?_
      refine TO.nil (T.ret (Res.drop ?_))
      refine Res.one (.bool true) Tryd.results6 rfl ?_
      exact ⟨[], Sub.z, rfl, rfl⟩
    have hge119 : ¬ kk > 30 := by omega
    refine T.skip (T.seq (T.region ?_))
    refine TO.quiet (q_load_boxAgg 2 Tryd.underlying25 rfl inf25 rfl rfl rfl) (TO.quiet (q_move rfl) (TO.quiet (q_conv_id Tryd.underlying52 Tryd.underlying3 rfl (wrap64_id ⟨by omega, by omega⟩)) (TO.quiet (QT.cast (q_add64 rfl rfl (by omega)) (v' := .int .i64 ((kk + 1 : Nat) : Int)) (congrArg (Value.int .i64) (by omega))) ?_)))
    have hk125 := fun (w1 : World) (hI : Inv w [rowI wb2 wc2 5 1 (byts ((nthV a (kk + 1)).getD [])), rowI wb1 wc1 5 1 (byts ((nthV a kk).getD [])), oI z1 25 (dC a k)] w1) => (haveI := Inv.tab (P := Tryd.prog) hI; wdsC w1 a k (hI.atB ha) haa haar haaf ((kk + 1 : Nat) : Int))
    refine TO.loud rfl (l_call ent15 (CallT.of_pure hk125) rfl ?_)
    clear hk125
    rintro vr O' ⟨N, rfl, ws1, lb1, lc1, hw1, rfl, rfl⟩
    refine TO.quiet (q_move rfl) (TO.quiet (q_extract (vs := _) rfl rfl) (TO.quiet (q_extract (vs := _) rfl rfl) (TO.quiet (q_assign rfl) ?_)))
    refine TO.quiet (q_assign rfl) ?_
    refine TO.nil (T.seq ?_)
    have hWA := wds_at he0 (by omega) hu hw1
    have hq9 := hWA.2.2.1
    have hq9x := hWA.2.2.2
    refine T.region ?_
    refine TO.quiet (q_move rfl) (TO.quiet (QT.toB (q_eql rfl rfl) (decide_eq_true (by rw [hWA.1]; rfl))) (TO.quiet (q_move rfl) ?_))
    refine TO.guarded rfl rfl rfl (LT.of_quiet rfl rfl (q_move rfl) ?_)
    refine TO.guarded rfl rfl rfl (LT.of_quiet rfl rfl (q_len Tryd.underlying33 rfl) ?_)
    refine TO.guarded rfl rfl rfl (LT.of_quiet rfl rfl (q_move rfl) ?_)
    refine TO.guarded rfl rfl rfl (LT.of_quiet rfl rfl (q_conv_id Tryd.underlying52 Tryd.underlying3 rfl (wrap64_id ⟨by omega, by omega⟩)) ?_)
    refine TO.guarded rfl rfl rfl (LT.of_quiet rfl rfl (QT.cast (q_add64 rfl rfl (by omega)) (v' := .int .i64 ((kk + 1 : Nat) : Int)) (congrArg (Value.int .i64) (by omega))) ?_)
    refine TO.guarded rfl rfl rfl (LT.of_quiet rfl rfl (QT.toB (q_eql rfl rfl) (decide_eq_true (by have := hWA.2.1; omega))) ?_)
    refine TO.quiet (q_pick1 rfl rfl) (TO.quiet (q_move rfl) ?_)
    refine TO.guarded rfl rfl rfl (LT.of_quiet rfl rfl (q_move rfl) ?_)
    refine TO.guarded rfl rfl rfl (LT.of_quiet rfl rfl (q_move rfl) ?_)
    refine TO.guarded rfl rfl rfl (LT.of_quiet rfl rfl (q_conv_id Tryd.underlying52 Tryd.underlying3 rfl (wrap64_id ⟨by omega, by omega⟩)) ?_)
    refine TO.guarded rfl rfl rfl (LT.of_quiet rfl rfl (q_ix (i := kk) Tryd.underlying33 inf29 rfl rfl (fun w9 hI9 => (wlO hI9 (T2 := 29) (T1 := 5) (ws := ws1) (List.mem_of_getElem? (i := 0) rfl)).1) (by have := hWA.2.1; omega) (by rw [List.length_map]; have := hWA.2.1; omega)) ?_)
    refine TO.guarded rfl rfl rfl (LT.of_quiet rfl rfl (q_ld Tryd.underlying29 rfl rfl (fun w9 hI9 => (wlO hI9 (T2 := 29) (T1 := 5) (ws := ws1) (List.mem_of_getElem? (i := 0) rfl)).1) (wvals_get hq9)) ?_)
    refine TO.guarded rfl rfl rfl (LT.of_quiet rfl rfl (q_move rfl) ?_)
    have hk145 := fun (w1 : World) (hI : Inv w [wlI 29 5 lb1 lc1 ws1, rowI wb2 wc2 5 1 (byts ((nthV a (kk + 1)).getD [])), rowI wb1 wc1 5 1 (byts ((nthV a kk).getD [])), oI z1 25 (dC a k)] w1) => (haveI := Inv.tab (P := Tryd.prog) hI; (show PureT _ _ _ _ _ from by
        have h9 := equalBytes w1 (wAt ws1 kk).b wb1 (wAt ws1 kk).c wc1 (wAt ws1 kk).xs ((nthV a kk).getD []) ((wlO hI (T2 := 29) (T1 := 5) (ws := ws1) (List.mem_of_getElem? (i := 0) rfl)).2 (wAt ws1 kk) (List.mem_of_getElem? hq9)) (hI.slOf (List.mem_of_getElem? (i := 2) rfl)) (by rw [hq9x]; omega)
        rw [decide_eq_true (show (wAt ws1 kk).xs = ((nthV a kk).getD []) from hq9x)] at h9
        exact h9))
    refine TO.guarded rfl rfl rfl (l_call ent16 (CallT.of_pure hk145) rfl ?_)
    clear hk145
    rintro vr O' ⟨N, rfl, rfl, rfl⟩
    refine TO.quiet (q_pick1 rfl rfl) (TO.quiet (q_assign rfl) ?_)
    refine TO.nil (T.ret (Res.drop ?_))
    refine Res.one (.bool true) Tryd.results6 rfl ?_
    exact ⟨[], Sub.z, rfl, rfl⟩
  refine TO.guarded rfl rfl rfl (LT.of_quiet rfl rfl (QT.toB (q_move rfl) (Bool.eq_false_iff.2 hs61)) ?_)
  refine TO.passed rfl rfl ?_
  refine TO.passed rfl rfl ?_
  refine TO.guarded rfl rfl rfl (LT.of_quiet rfl rfl (q_pick0 rfl rfl) ?_)
  refine TO.quiet (q_pick0 rfl rfl) ?_
  refine TO.nil ?_
  refine T.cond0 rfl ?_
  refine T.skip (T.seq (T.region ?_))
  refine TO.quiet (q_load_boxAgg 2 Tryd.underlying25 rfl inf25 rfl rfl rfl) (TO.quiet (q_move rfl) ?_)
  have hk68 := fun (w1 : World) (hI : Inv w [rowI wb2 wc2 5 1 (byts ((nthV a (kk + 1)).getD [])), rowI wb1 wc1 5 1 (byts ((nthV a kk).getD [])), oI z1 25 (dC a k)] w1) => (haveI := Inv.tab (P := Tryd.prog) hI; (show PureT _ _ _ _ _ from by
      have h9 := accF w1 a k (hI.atB ha) haa haar haaf wb wc o (hI.sl hW) hwb hw8
      exact h9))
  refine TO.loud rfl (l_call ent34 (CallT.of_pure hk68) rfl ?_)
  clear hk68
  rintro vr O' ⟨N, rfl, rfl, rfl⟩
  refine TO.quiet (q_assign rfl) ?_
  refine TO.nil (T.seq (T.seq (T.region ?_)))
  refine TO.quiet (q_move rfl) (TO.quiet (q_not rfl) ?_)
  refine TO.nil ?_
  refine T.cond rfl (fun hc => ?_) (fun hc => ?_)
  · have hn1 : nthV a kk = none := none_of9 hc
    have hn2 : nthV a (kk + 1) = none := none_ofB hs61
    refine T.seq (T.region ?_)
    refine TO.quiet (QT.toB (q_move rfl) (Bool.eq_false_iff.2 hs61)) (TO.quiet (q_not rfl) (TO.quiet (q_move rfl) ?_))
    refine TO.guarded rfl rfl rfl (LT.of_quiet rfl rfl (q_move rfl) ?_)
    refine TO.guarded rfl rfl rfl (LT.of_quiet rfl rfl (q_len Tryd.underlying29 rfl) ?_)
    refine TO.guarded rfl rfl rfl (LT.of_quiet rfl rfl (q_move rfl) ?_)
    refine TO.guarded rfl rfl rfl (LT.of_quiet rfl rfl (q_len Tryd.underlying29 rfl) ?_)
    refine TO.guarded rfl rfl rfl (LT.of_quiet rfl rfl (q_addN (a := (((nthV a kk).getD []).length)) (b := (((nthV a (kk + 1)).getD []).length)) rfl rfl (by omega)) ?_)
    refine TO.guarded rfl rfl rfl (LT.of_quiet rfl rfl (QT.toB (q_eql rfl rfl) (decide_eq_true (by rw [hn1, hn2]; rfl))) ?_)
    refine TO.quiet (q_pick1 rfl rfl) (TO.quiet (q_assign rfl) ?_)
    refine TO.nil (T.ret (Res.drop ?_))
    refine Res.one (.bool true) Tryd.results6 rfl ?_
    exact ⟨[], Sub.z, rfl, rfl⟩
  have hu : nthV a kk = some ((nthV a kk).getD []) := some_getD9 hc
  refine T.skip (T.seq (T.seq ?_))
  
  refine T.region ?_
  refine TO.quiet (q_load_boxAgg 2 Tryd.underlying25 rfl inf25 rfl rfl rfl) (TO.quiet (q_move rfl) ?_)
  have hk83 := fun (w1 : World) (hI : Inv w [rowI wb2 wc2 5 1 (byts ((nthV a (kk + 1)).getD [])), rowI wb1 wc1 5 1 (byts ((nthV a kk).getD [])), oI z1 25 (dC a k)] w1) => (haveI := Inv.tab (P := Tryd.prog) hI; (show PureT _ _ _ _ _ from by
      have h9 := accF w1 a k (hI.atB ha) haa haar haaf wb1 wc1 ((nthV a kk).getD []) (hI.slOf (List.mem_of_getElem? (i := 1) rfl)) (by omega) (fun x hx => by have := nth_wd he0 (by omega) hu x hx; omega)
      rw [(show accV a ((nthV a kk).getD []) = true from nth_acc he0 (by omega) hu)] at h9
      exact h9))
  refine TO.loud rfl (l_call ent34 (CallT.of_pure hk83) rfl ?_)
  clear hk83
  rintro vr O' ⟨N, rfl, rfl, rfl⟩
  refine TO.quiet (q_not rfl) (TO.quiet (q_move rfl) ?_)
  refine TO.guarded rfl rfl rfl (LT.of_quiet rfl rfl (QT.toB (q_move rfl) (Bool.eq_false_iff.2 hs61)) ?_)
  refine TO.guarded rfl rfl rfl (LT.of_quiet rfl rfl (q_move rfl) ?_)
  refine TO.passed rfl rfl ?_
  refine TO.passed rfl rfl ?_
  refine TO.passed rfl rfl ?_
  refine TO.passed rfl rfl ?_
  refine TO.passed rfl rfl ?_
  refine TO.passed rfl rfl ?_
  refine TO.passed rfl rfl ?_
  refine TO.passed rfl rfl ?_
  refine TO.passed rfl rfl ?_
  refine TO.passed rfl rfl ?_
  refine TO.guarded rfl rfl rfl (LT.of_quiet rfl rfl (q_pick0 rfl rfl) ?_)
  refine TO.quiet (q_pick0 rfl rfl) ?_
  refine TO.nil ?_
  refine T.cond0 rfl ?_
  refine T.skip (T.seq (T.region ?_))
  refine TO.quiet (q_move rfl) (TO.quiet (q_move rfl) ?_)
  have hk102 := fun (w1 : World) (hI : Inv w [rowI wb2 wc2 5 1 (byts ((nthV a (kk + 1)).getD [])), rowI wb1 wc1 5 1 (byts ((nthV a kk).getD [])), oI z1 25 (dC a k)] w1) => (haveI := Inv.tab (P := Tryd.prog) hI; cmpC w1 wb wb1 wc wc1 o ((nthV a kk).getD []) (hI.sl hW) (hI.slOf (List.mem_of_getElem? (i := 1) rfl)) hwb (by omega))
  refine TO.loud rfl (l_call ent35 (CallT.of_pure hk102) rfl ?_)
  clear hk102
  rintro vr O' ⟨N, rfl, c2, rfl, rfl, hc2⟩
  refine TO.quiet (q_assign rfl) ?_
  refine TO.nil (T.seq (T.seq (T.region ?_)))
  refine TO.quiet (q_move rfl) ?_
  by_cases hs104 : (accV a o) = true
  · refine TO.quiet (QT.toB (q_move rfl) (hs104)) ?_
    refine TO.guarded rfl rfl rfl (LT.of_quiet rfl rfl (q_move rfl) ?_)
    refine TO.guarded rfl rfl rfl (LT.of_quiet rfl rfl (QT.cast (q_gtr rfl rfl) (v' := .bool false) (congrArg Value.bool (decide_eq_false (fun h9 => (by
          have h8 := (hc2 (acc_wd hs104) (nth_wd he0 (by omega) hu)).2.1 (by omega)
          obtain ⟨v9, h7, _⟩ := nth_gap he0 (by omega) hu hs104 h8
          rw [h7] at hs61; exact hs61 rfl))))) ?_)
    refine TO.quiet (q_pick1 rfl rfl) (TO.quiet (q_move rfl) ?_)
    refine TO.passed rfl rfl ?_
    refine TO.passed rfl rfl ?_
    refine TO.passed rfl rfl ?_
    refine TO.passed rfl rfl ?_
    refine TO.passed rfl rfl ?_
    refine TO.passed rfl rfl ?_
    refine TO.passed rfl rfl ?_
    refine TO.passed rfl rfl ?_
    refine TO.quiet (q_pick0 rfl rfl) ?_
    refine TO.nil ?_
    refine T.cond0 rfl ?_
    refine T.skip (T.seq (T.seq (T.region ?_)))
    refine TO.quiet (q_move rfl) (TO.quiet (q_gtr rfl rfl) ?_)
    refine TO.nil ?_
    refine T.condP rfl (fun hc => ?_) (fun hc => ?_)
    · have hlt119 : kk > 30 := by omega
      refine T.seq (T.region ?_)
      refine TO.quiet (q_assign rfl) ?_
      refine TO.nil (T.ret (Res.drop ?_))
      refine Res.one (.bool true) Tryd.results6 rfl ?_
      exact ⟨[], Sub.z, rfl, rfl⟩
    have hge119 : ¬ kk > 30 := by omega
    refine T.skip (T.seq (T.region ?_))
    refine TO.quiet (q_load_boxAgg 2 Tryd.underlying25 rfl inf25 rfl rfl rfl) (TO.quiet (q_move rfl) (TO.quiet (q_conv_id Tryd.underlying52 Tryd.underlying3 rfl (wrap64_id ⟨by omega, by omega⟩)) (TO.quiet (QT.cast (q_add64 rfl rfl (by omega)) (v' := .int .i64 ((kk + 1 : Nat) : Int)) (congrArg (Value.int .i64) (by omega))) ?_)))
    have hk125 := fun (w1 : World) (hI : Inv w [rowI wb2 wc2 5 1 (byts ((nthV a (kk + 1)).getD [])), rowI wb1 wc1 5 1 (byts ((nthV a kk).getD [])), oI z1 25 (dC a k)] w1) => (haveI := Inv.tab (P := Tryd.prog) hI; wdsC w1 a k (hI.atB ha) haa haar haaf ((kk + 1 : Nat) : Int))
    refine TO.loud rfl (l_call ent15 (CallT.of_pure hk125) rfl ?_)
    clear hk125
    rintro vr O' ⟨N, rfl, ws1, lb1, lc1, hw1, rfl, rfl⟩
    refine TO.quiet (q_move rfl) (TO.quiet (q_extract (vs := _) rfl rfl) (TO.quiet (q_extract (vs := _) rfl rfl) (TO.quiet (q_assign rfl) ?_)))
    refine TO.quiet (q_assign rfl) ?_
    refine TO.nil (T.seq ?_)
    have hWA := wds_at he0 (by omega) hu hw1
    have hq9 := hWA.2.2.1
    have hq9x := hWA.2.2.2
    refine T.region ?_
    refine TO.quiet (q_move rfl) (TO.quiet (QT.toB (q_eql rfl rfl) (decide_eq_true (by rw [hWA.1]; rfl))) (TO.quiet (q_move rfl) ?_))
    refine TO.guarded rfl rfl rfl (LT.of_quiet rfl rfl (q_move rfl) ?_)
    refine TO.guarded rfl rfl rfl (LT.of_quiet rfl rfl (q_len Tryd.underlying33 rfl) ?_)
    refine TO.guarded rfl rfl rfl (LT.of_quiet rfl rfl (q_move rfl) ?_)
    refine TO.guarded rfl rfl rfl (LT.of_quiet rfl rfl (q_conv_id Tryd.underlying52 Tryd.underlying3 rfl (wrap64_id ⟨by omega, by omega⟩)) ?_)
    refine TO.guarded rfl rfl rfl (LT.of_quiet rfl rfl (QT.cast (q_add64 rfl rfl (by omega)) (v' := .int .i64 ((kk + 1 : Nat) : Int)) (congrArg (Value.int .i64) (by omega))) ?_)
    refine TO.guarded rfl rfl rfl (LT.of_quiet rfl rfl (QT.toB (q_eql rfl rfl) (decide_eq_true (by have := hWA.2.1; omega))) ?_)
    refine TO.quiet (q_pick1 rfl rfl) (TO.quiet (q_move rfl) ?_)
    refine TO.guarded rfl rfl rfl (LT.of_quiet rfl rfl (q_move rfl) ?_)
    refine TO.guarded rfl rfl rfl (LT.of_quiet rfl rfl (q_move rfl) ?_)
    refine TO.guarded rfl rfl rfl (LT.of_quiet rfl rfl (q_conv_id Tryd.underlying52 Tryd.underlying3 rfl (wrap64_id ⟨by omega, by omega⟩)) ?_)
    refine TO.guarded rfl rfl rfl (LT.of_quiet rfl rfl (q_ix (i := kk) Tryd.underlying33 inf29 rfl rfl (fun w9 hI9 => (wlO hI9 (T2 := 29) (T1 := 5) (ws := ws1) (List.mem_of_getElem? (i := 0) rfl)).1) (by have := hWA.2.1; omega) (by rw [List.length_map]; have := hWA.2.1; omega)) ?_)
    refine TO.guarded rfl rfl rfl (LT.of_quiet rfl rfl (q_ld Tryd.underlying29 rfl rfl (fun w9 hI9 => (wlO hI9 (T2 := 29) (T1 := 5) (ws := ws1) (List.mem_of_getElem? (i := 0) rfl)).1) (wvals_get hq9)) ?_)
    refine TO.guarded rfl rfl rfl (LT.of_quiet rfl rfl (q_move rfl) ?_)
    have hk145 := fun (w1 : World) (hI : Inv w [wlI 29 5 lb1 lc1 ws1, rowI wb2 wc2 5 1 (byts ((nthV a (kk + 1)).getD [])), rowI wb1 wc1 5 1 (byts ((nthV a kk).getD [])), oI z1 25 (dC a k)] w1) => (haveI := Inv.tab (P := Tryd.prog) hI; (show PureT _ _ _ _ _ from by
        have h9 := equalBytes w1 (wAt ws1 kk).b wb1 (wAt ws1 kk).c wc1 (wAt ws1 kk).xs ((nthV a kk).getD []) ((wlO hI (T2 := 29) (T1 := 5) (ws := ws1) (List.mem_of_getElem? (i := 0) rfl)).2 (wAt ws1 kk) (List.mem_of_getElem? hq9)) (hI.slOf (List.mem_of_getElem? (i := 2) rfl)) (by rw [hq9x]; omega)
        rw [decide_eq_true (show (wAt ws1 kk).xs = ((nthV a kk).getD []) from hq9x)] at h9
        exact h9))
    refine TO.guarded rfl rfl rfl (l_call ent16 (CallT.of_pure hk145) rfl ?_)
    clear hk145
    rintro vr O' ⟨N, rfl, rfl, rfl⟩
    refine TO.quiet (q_pick1 rfl rfl) (TO.quiet (q_assign rfl) ?_)
    refine TO.nil (T.ret (Res.drop ?_))
    refine Res.one (.bool true) Tryd.results6 rfl ?_
    exact ⟨[], Sub.z, rfl, rfl⟩
  refine TO.quiet (QT.toB (q_move rfl) (Bool.eq_false_iff.2 hs104)) ?_
  refine TO.passed rfl rfl ?_
  refine TO.passed rfl rfl ?_
  refine TO.quiet (q_pick0 rfl rfl) (TO.quiet (q_move rfl) ?_)
  refine TO.passed rfl rfl ?_
  refine TO.passed rfl rfl ?_
  refine TO.passed rfl rfl ?_
  refine TO.passed rfl rfl ?_
  refine TO.passed rfl rfl ?_
  refine TO.passed rfl rfl ?_
  refine TO.passed rfl rfl ?_
  refine TO.passed rfl rfl ?_
  refine TO.quiet (q_pick0 rfl rfl) ?_
  refine TO.nil ?_
  refine T.cond0 rfl ?_
  refine T.skip (T.seq (T.seq (T.region ?_)))
  refine TO.quiet (q_move rfl) (TO.quiet (q_gtr rfl rfl) ?_)
  refine TO.nil ?_
  refine T.condP rfl (fun hc => ?_) (fun hc => ?_)
  · have hlt119 : kk > 30 := by omega
    refine T.seq (T.region ?_)
    refine TO.quiet (q_assign rfl) ?_
    refine TO.nil (T.ret (Res.drop ?_))
    refine Res.one (.bool true) Tryd.results6 rfl ?_
    exact ⟨[], Sub.z, rfl, rfl⟩
  have hge119 : ¬ kk > 30 := by omega
  refine T.skip (T.seq (T.region ?_))
  refine TO.quiet (q_load_boxAgg 2 Tryd.underlying25 rfl inf25 rfl rfl rfl) (TO.quiet (q_move rfl) (TO.quiet (q_conv_id Tryd.underlying52 Tryd.underlying3 rfl (wrap64_id ⟨by omega, by omega⟩)) (TO.quiet (QT.cast (q_add64 rfl rfl (by omega)) (v' := .int .i64 ((kk + 1 : Nat) : Int)) (congrArg (Value.int .i64) (by omega))) ?_)))
  have hk125 := fun (w1 : World) (hI : Inv w [rowI wb2 wc2 5 1 (byts ((nthV a (kk + 1)).getD [])), rowI wb1 wc1 5 1 (byts ((nthV a kk).getD [])), oI z1 25 (dC a k)] w1) => (haveI := Inv.tab (P := Tryd.prog) hI; wdsC w1 a k (hI.atB ha) haa haar haaf ((kk + 1 : Nat) : Int))
  refine TO.loud rfl (l_call ent15 (CallT.of_pure hk125) rfl ?_)
  clear hk125
  rintro vr O' ⟨N, rfl, ws1, lb1, lc1, hw1, rfl, rfl⟩
  refine TO.quiet (q_move rfl) (TO.quiet (q_extract (vs := _) rfl rfl) (TO.quiet (q_extract (vs := _) rfl rfl) (TO.quiet (q_assign rfl) ?_)))
  refine TO.quiet (q_assign rfl) ?_
  refine TO.nil (T.seq ?_)
  have hWA := wds_at he0 (by omega) hu hw1
  have hq9 := hWA.2.2.1
  have hq9x := hWA.2.2.2
  refine T.region ?_
  refine TO.quiet (q_move rfl) (TO.quiet (QT.toB (q_eql rfl rfl) (decide_eq_true (by rw [hWA.1]; rfl))) (TO.quiet (q_move rfl) ?_))
  refine TO.guarded rfl rfl rfl (LT.of_quiet rfl rfl (q_move rfl) ?_)
  refine TO.guarded rfl rfl rfl (LT.of_quiet rfl rfl (q_len Tryd.underlying33 rfl) ?_)
  refine TO.guarded rfl rfl rfl (LT.of_quiet rfl rfl (q_move rfl) ?_)
  refine TO.guarded rfl rfl rfl (LT.of_quiet rfl rfl (q_conv_id Tryd.underlying52 Tryd.underlying3 rfl (wrap64_id ⟨by omega, by omega⟩)) ?_)
  refine TO.guarded rfl rfl rfl (LT.of_quiet rfl rfl (QT.cast (q_add64 rfl rfl (by omega)) (v' := .int .i64 ((kk + 1 : Nat) : Int)) (congrArg (Value.int .i64) (by omega))) ?_)
  refine TO.guarded rfl rfl rfl (LT.of_quiet rfl rfl (QT.toB (q_eql rfl rfl) (decide_eq_true (by have := hWA.2.1; omega))) ?_)
  refine TO.quiet (q_pick1 rfl rfl) (TO.quiet (q_move rfl) ?_)
  refine TO.guarded rfl rfl rfl (LT.of_quiet rfl rfl (q_move rfl) ?_)
  refine TO.guarded rfl rfl rfl (LT.of_quiet rfl rfl (q_move rfl) ?_)
  refine TO.guarded rfl rfl rfl (LT.of_quiet rfl rfl (q_conv_id Tryd.underlying52 Tryd.underlying3 rfl (wrap64_id ⟨by omega, by omega⟩)) ?_)
  refine TO.guarded rfl rfl rfl (LT.of_quiet rfl rfl (q_ix (i := kk) Tryd.underlying33 inf29 rfl rfl (fun w9 hI9 => (wlO hI9 (T2 := 29) (T1 := 5) (ws := ws1) (List.mem_of_getElem? (i := 0) rfl)).1) (by have := hWA.2.1; omega) (by rw [List.length_map]; have := hWA.2.1; omega)) ?_)
  refine TO.guarded rfl rfl rfl (LT.of_quiet rfl rfl (q_ld Tryd.underlying29 rfl rfl (fun w9 hI9 => (wlO hI9 (T2 := 29) (T1 := 5) (ws := ws1) (List.mem_of_getElem? (i := 0) rfl)).1) (wvals_get hq9)) ?_)
  refine TO.guarded rfl rfl rfl (LT.of_quiet rfl rfl (q_move rfl) ?_)
  have hk145 := fun (w1 : World) (hI : Inv w [wlI 29 5 lb1 lc1 ws1, rowI wb2 wc2 5 1 (byts ((nthV a (kk + 1)).getD [])), rowI wb1 wc1 5 1 (byts ((nthV a kk).getD [])), oI z1 25 (dC a k)] w1) => (haveI := Inv.tab (P := Tryd.prog) hI; (show PureT _ _ _ _ _ from by
      have h9 := equalBytes w1 (wAt ws1 kk).b wb1 (wAt ws1 kk).c wc1 (wAt ws1 kk).xs ((nthV a kk).getD []) ((wlO hI (T2 := 29) (T1 := 5) (ws := ws1) (List.mem_of_getElem? (i := 0) rfl)).2 (wAt ws1 kk) (List.mem_of_getElem? hq9)) (hI.slOf (List.mem_of_getElem? (i := 2) rfl)) (by rw [hq9x]; omega)
      rw [decide_eq_true (show (wAt ws1 kk).xs = ((nthV a kk).getD []) from hq9x)] at h9
      exact h9))
  refine TO.guarded rfl rfl rfl (l_call ent16 (CallT.of_pure hk145) rfl ?_)
  clear hk145
  rintro vr O' ⟨N, rfl, rfl, rfl⟩
  refine TO.quiet (q_pick1 rfl rfl) (TO.quiet (q_assign rfl) ?_)
  refine TO.nil (T.ret (Res.drop ?_))
  refine Res.one (.bool true) Tryd.results6 rfl ?_
  exact ⟨[], Sub.z, rfl, rfl⟩
theorem orderLaw (w : World) [Tab Tryd.prog w] (a : DFA) (nba fba : Option Addr) (nca fca : Nat) (vsa : List Value) (ha : DfaAt w a nba vsa fba) (haa : a.next.length < 9223372036854775807) (haar : ∀ r ∈ a.next, r.length < 9223372036854775807) (haaf : a.final.length < 9223372036854775807) (kk : Int) (hk : 0 ≤ kk ∧ kk < 65536) (wb : Option Addr) (wc : Nat) (o : List Nat) (hW : Sl w wb (byts o)) (hwb : o.length < 9223372036854775807) (hw8 : ∀ x ∈ o, x < 256) :
    PureT Tryd.prog 6 [.agg (dfaCells a nba nca fba fca).toArray, .int .u16 kk, .slice wb o.length wc] w fun v N => v = .bool true ∧ N = [] := by
  obtain ⟨ja, ga, ea⟩ := ha.dk nca fca
  rw [ea]
  obtain ⟨kk, rfl⟩ : ∃ n : Nat, kk = (n : Int) := ⟨kk.toNat, by omega⟩
  exact orderW w a ja ga haa haar haaf kk (by omega) wb wc o hW hwb hw8
end Go.Proofs.YtnmfefmhfkhihaaDoor

