/- Contracts of functions of the program (Z1): what each call answers and that it leaves memory as it was. Conditions: those each theorem names. -/
import Derived.Test.YtnikhiohindggaaDoorCoreK
import Derived.Test.YtnikhiohindggaaDoorYs
import Derived.Test.YtnikhiohindggaaDoorEnd
set_option linter.unusedSectionVars false
set_option linter.unusedSimpArgs false
set_option linter.unusedVariables false
set_option linter.unnecessarySimpa false
set_option maxHeartbeats 8000000
set_option maxRecDepth 20000
namespace Go.Proofs.YtnikhiohindggaaDoor
open Go.Lx Go.RowKit _root_.Go.Proofs.Tryd
theorem matchesW (w : World) [Tab Tryd.prog w] (p : Par) (k : DK) (h : AtP w p k) (hB : ParC p) (l : La) (kl : LK) (hl : AtL w l kl) (hp8 : ∀ x ∈ l.pre, x < 256) (hl8 : ∀ x ∈ l.loop, x < 256) :
    PureT Tryd.prog 3 [pV p k, lV l kl] w fun v N => v = .bool true ∧ N = [] := by
  refine CallT.enter func3 rfl ntmps3 rfl ?_
  refine T.s (T.rg ?_)
  refine TO.l rfl (l_box (v := (pV p k)) (cs := (pC p k)) rfl rfl (fun z1 => ?_))
  refine TO.l rfl (l_box (v := (lV l kl)) (cs := (lC l kl)) rfl rfl (fun z2 => ?_))
  refine TO.qa rfl ?_
  refine TO.nl (T.s (T.s (T.rg ?_)))
  refine TO.q (q_la 1 underlying25 rfl inf25 rfl rfl rfl) ?_
  refine TO.l rfl (l_buildSlice (m := 1) (parts := [(0, _)]) (cs := (pC p k)) underlying59 inf25 (by decide) (by kernel_rfl) rfl (fun z3 => ?_))
  have hk19 := fun (w1 : World) (hI : Inv w [rowI (some ⟨z3, 0, none⟩) 1 25 4 (pC p k), oI z2 28 (lC l kl), oI z1 25 (pC p k)] w1) => (haveI := tbz hI; (show PureT _ _ _ _ _ from by
      have h9 := longPF w1 (some ⟨z3, 0, none⟩) 1 [(p, k)] (hI.slOf (cs := parsC [(p, k)]) (mG 0 rfl)) (by intro q9 hq; simp only [List.mem_cons, List.not_mem_nil, or_false] at hq; rcases hq with rfl <;> first | exact hI.atQ h) (by show 1 < 1000000; decide) (by intro q9 hq; simp only [List.mem_cons, List.not_mem_nil, or_false] at hq; rcases hq with rfl <;> first | exact hB)
      rw [show ([(p, k)] : List (Par × DK)).any (fun q => Lx.longP q.1) = Lx.longP p by simp] at h9
      exact h9))
  refine TO.l rfl (l_call ent10 (CallT.op hk19) rfl ?_)
  clear hk19
  rintro vr O' ⟨N, rfl, rfl, rfl⟩
  by_cases h20 : Lx.longP p = true
  · refine TO.q (QT.toB (q_move rfl) (h20)) ?_
    refine TO.pd rfl rfl ?_
    refine TO.pd rfl rfl ?_
    refine TO.pd rfl rfl ?_
    refine TO.q (q_pick1 rfl rfl) ?_
    refine TO.nl ?_
    refine T.cond1 rfl ?_
    refine T.s (T.rg ?_)
    have hk25 := fun (w1 : World) (hI : Inv w [rowI (some ⟨z3, 0, none⟩) 1 25 4 (pC p k), oI z2 28 (lC l kl), oI z1 25 (pC p k)] w1) => (haveI := tbz hI; awakeC w1)
    refine TO.l rfl (l_call ent12 (CallT.op hk25) rfl ?_)
    clear hk25
    rintro vr O' ⟨N, rfl, rfl, rfl⟩
    refine TO.qa rfl ?_
    refine TO.nl (T.ret (Res.drop ?_))
    refine Res.one (.bool true) Tryd.results3 rfl ?_
    exact ⟨[], Sub.of (List.nil_sublist _), rfl, rfl⟩
  refine TO.q (QT.toB (q_move rfl) (Bool.eq_false_iff.2 h20)) ?_
  refine TO.gd rfl rfl rfl (LT.oq rfl rfl (q_la 1 underlying28 rfl inf28 rfl rfl rfl) ?_)
  refine TO.gd rfl rfl rfl (l_buildSlice (m := 1) (parts := [(0, _)]) (cs := (lC l kl)) underlying60 inf28 (by decide) (by kernel_rfl) rfl (fun z4 => ?_))
  have hk23 := fun (w1 : World) (hI : Inv w [rowI (some ⟨z4, 0, none⟩) 1 28 2 (lC l kl), rowI (some ⟨z3, 0, none⟩) 1 25 4 (pC p k), oI z2 28 (lC l kl), oI z1 25 (pC p k)] w1) => (haveI := tbz hI; (show PureT _ _ _ _ _ from by
      have h9 := longLF w1 (some ⟨z4, 0, none⟩) 1 [⟨l, kl.pb, kl.pc, kl.lb, kl.lc⟩] (hI.slOf (cs := lasC [⟨l, kl.pb, kl.pc, kl.lb, kl.lc⟩]) (mG 0 rfl)) (by show 1 < 9223372036854775807; decide)
      rw [show ([⟨l, kl.pb, kl.pc, kl.lb, kl.lc⟩] : List LaRef).any (fun q => Lx.longL q.l) = Lx.longL l by simp] at h9
      exact h9))
  refine TO.gd rfl rfl rfl (l_call ent11 (CallT.op hk23) rfl ?_)
  clear hk23
  rintro vr O' ⟨N, rfl, rfl, rfl⟩
  refine TO.q (q_pick0 rfl rfl) ?_
  refine TO.nl ?_
  refine T.condP (p := Lx.longL l = true) (congrArg Value.bool (by cases Lx.longL l <;> rfl)) (fun hc => ?_) (fun hc => ?_)
  · refine T.s ?_
    refine T.rg ?_
    have hk25 := fun (w1 : World) (hI : Inv w [rowI (some ⟨z4, 0, none⟩) 1 28 2 (lC l kl), rowI (some ⟨z3, 0, none⟩) 1 25 4 (pC p k), oI z2 28 (lC l kl), oI z1 25 (pC p k)] w1) => (haveI := tbz hI; awakeC w1)
    refine TO.l rfl (l_call ent12 (CallT.op hk25) rfl ?_)
    clear hk25
    rintro vr O' ⟨N, rfl, rfl, rfl⟩
    refine TO.qa rfl ?_
    refine TO.nl (T.ret (Res.drop ?_))
    refine Res.one (.bool true) Tryd.results3 rfl ?_
    exact ⟨[], Sub.of (List.nil_sublist _), rfl, rfl⟩
  have hnl : ¬ Lx.longL l = true := hc
  refine T.skip ?_
  have hS : ParS p := longP_s (Bool.eq_false_iff.2 h20)
  have hL : LaB l := longL_lab hnl hp8 hl8
  obtain ⟨C, eC⟩ : ∃ zz, coV p = zz := ⟨_, rfl⟩
  have hC : ParC C := eC ▸ coV_c hB
  refine T.cut (fun ρ O => ∃ (zP zL : Nat) (k1 : DK) (l1 : LK), O = [oI zP 25 (pC p k1), oI zL 28 (lC l l1), pI 23 3 p k1, lI 5 l l1, oI z2 28 (lC l kl), oI z1 25 (pC p k)] ∧ Heads [(0, (pV p k)), (1, (lV l kl)), (2, (.pointer (some ⟨z1, 0, none⟩))), (3, (.pointer (some ⟨z2, 0, none⟩))), (4, .bool false), (5, (.pointer (some ⟨zP, 0, none⟩))), (6, (.pointer (some ⟨zL, 0, none⟩)))] ρ) ?_ ?_
  · refine T.tree [oI z2 28 (lC l kl), oI z1 25 (pC p k)] 8 mixed rfl (Sub.pick [2, 2] rfl) (fun _ _ _ h => h) ?_
    refine RO.quietT 0 rfl (by kernel_rfl) (q_la 1 underlying25 rfl inf25 rfl rfl rfl) ?_
    refine RO.quietT 2 rfl (by kernel_rfl) (q_la 0 underlying28 rfl inf28 rfl rfl rfl) ?_
    have hk27 := fun (w1 : World) (hI : Inv w [rowI (some ⟨z4, 0, none⟩) 1 28 2 (lC l kl), rowI (some ⟨z3, 0, none⟩) 1 25 4 (pC p k), oI z2 28 (lC l kl), oI z1 25 (pC p k)] w1) => (haveI := tbz hI; copyPar w1 p k (hI.atQ h) hS)
    refine RO.fork [1, 4, 5] (by kernel_rfl) rfl ⟨⟨_, rfl, rfl, l_call ent13 (CallT.op hk27) rfl ?_⟩, ⟨_, rfl, rfl, l_alloc inf25 rfl (fun zP => ⟨Sub.pick [3, 3] rfl, ?_⟩)⟩, ⟨_, rfl, rfl, l_alloc inf28 rfl (fun zL => ⟨Sub.pick [3, 3] rfl, ?_⟩)⟩, trivial⟩
    · clear hk27
      rintro vr O' ⟨N, rfl, k1, rfl, rfl⟩
      refine ⟨Sub.pick [3, 3] rfl, ?_⟩
      have hk29 := fun (w1 : World) (hI : Inv w [pI 23 3 p k1, rowI (some ⟨z4, 0, none⟩) 1 28 2 (lC l kl), rowI (some ⟨z3, 0, none⟩) 1 25 4 (pC p k), oI z2 28 (lC l kl), oI z1 25 (pC p k)] w1) => (haveI := tbz hI; ownL w1 l kl (hI.atU hl) hL)
      refine RO.fork [3, 4, 5] (by kernel_rfl) rfl ⟨⟨_, rfl, rfl, l_call ent14 (CallT.op hk29) rfl ?_⟩, ⟨_, rfl, rfl, l_alloc inf25 rfl (fun zP => ⟨Sub.pick [4, 4] rfl, ?_⟩)⟩, ⟨_, rfl, rfl, l_alloc inf28 rfl (fun zL => ⟨Sub.pick [4, 4] rfl, ?_⟩)⟩, trivial⟩
      · clear hk29
        rintro vr O' ⟨N, rfl, l1, rfl, rfl⟩
        refine ⟨Sub.pick [4, 4] rfl, ?_⟩
        refine RO.fork [4, 5] (by kernel_rfl) rfl ⟨⟨_, rfl, rfl, l_alloc inf25 rfl (fun zP => ⟨Sub.pick [5, 5] rfl, ?_⟩)⟩, ⟨_, rfl, rfl, l_alloc inf28 rfl (fun zL => ⟨Sub.pick [5, 5] rfl, ?_⟩)⟩, trivial⟩
        · refine RO.fork [5] (by kernel_rfl) rfl ⟨⟨_, rfl, rfl, l_alloc inf28 rfl (fun zL => ⟨Sub.pick [6, 6] rfl, ?_⟩)⟩, trivial⟩
          refine RO.fork [6] (by kernel_rfl) rfl ⟨⟨_, rfl, rfl, l_sb (v := (pV p k1)) (vs := (pC p k1)) 1 inf25 rfl rfl rfl rfl rfl rfl (by simp [putL]) ⟨Sub.pick [6, 6] rfl, ?_⟩⟩, trivial⟩
          refine RO.fork [7] (by kernel_rfl) rfl ⟨⟨_, rfl, rfl, l_sb (v := (lV l l1)) (vs := (lC l l1)) 0 inf28 rfl rfl rfl rfl rfl rfl (by simp [putL]) ⟨Sub.pick [6, 6] rfl, ?_⟩⟩, trivial⟩
          exact RO.fin (by kernel_rfl) ⟨zP, zL, k1, l1, rfl, ⟨rfl, rfl, rfl, rfl, rfl, rfl, rfl, trivial⟩⟩ (Sub.pick [1, 0, 1, 0, 2, 2] rfl)
        refine RO.fork [4] (by kernel_rfl) rfl ⟨⟨_, rfl, rfl, l_alloc inf25 rfl (fun zP => ⟨Sub.pick [6, 6] rfl, ?_⟩)⟩, trivial⟩
        refine RO.fork [6] (by kernel_rfl) rfl ⟨⟨_, rfl, rfl, l_sb (v := (pV p k1)) (vs := (pC p k1)) 0 inf25 rfl rfl rfl rfl rfl rfl (by simp [putL]) ⟨Sub.pick [6, 6] rfl, ?_⟩⟩, trivial⟩
        refine RO.fork [7] (by kernel_rfl) rfl ⟨⟨_, rfl, rfl, l_sb (v := (lV l l1)) (vs := (lC l l1)) 1 inf28 rfl rfl rfl rfl rfl rfl (by simp [putL]) ⟨Sub.pick [6, 6] rfl, ?_⟩⟩, trivial⟩
        exact RO.fin (by kernel_rfl) ⟨zP, zL, k1, l1, rfl, ⟨rfl, rfl, rfl, rfl, rfl, rfl, rfl, trivial⟩⟩ (Sub.pick [0, 0, 1, 0, 2, 2] rfl)
      · have hk29 := fun (w1 : World) (hI : Inv w [oI zP 25 [(.int .i64 0), (.int .i64 0), (.slice none 0 0), (.slice none 0 0)], pI 23 3 p k1, rowI (some ⟨z4, 0, none⟩) 1 28 2 (lC l kl), rowI (some ⟨z3, 0, none⟩) 1 25 4 (pC p k), oI z2 28 (lC l kl), oI z1 25 (pC p k)] w1) => (haveI := tbz hI; ownL w1 l kl (hI.atU hl) hL)
        refine RO.fork [3, 5] (by kernel_rfl) rfl ⟨⟨_, rfl, rfl, l_call ent14 (CallT.op hk29) rfl ?_⟩, ⟨_, rfl, rfl, l_alloc inf28 rfl (fun zL => ⟨Sub.pick [5, 5] rfl, ?_⟩)⟩, trivial⟩
        · clear hk29
          rintro vr O' ⟨N, rfl, l1, rfl, rfl⟩
          refine ⟨Sub.pick [5, 5] rfl, ?_⟩
          refine RO.fork [5] (by kernel_rfl) rfl ⟨⟨_, rfl, rfl, l_alloc inf28 rfl (fun zL => ⟨Sub.pick [6, 6] rfl, ?_⟩)⟩, trivial⟩
          refine RO.fork [6] (by kernel_rfl) rfl ⟨⟨_, rfl, rfl, l_sb (v := (pV p k1)) (vs := (pC p k1)) 2 inf25 rfl rfl rfl rfl rfl rfl (by simp [putL]) ⟨Sub.pick [6, 6] rfl, ?_⟩⟩, trivial⟩
          refine RO.fork [7] (by kernel_rfl) rfl ⟨⟨_, rfl, rfl, l_sb (v := (lV l l1)) (vs := (lC l l1)) 0 inf28 rfl rfl rfl rfl rfl rfl (by simp [putL]) ⟨Sub.pick [6, 6] rfl, ?_⟩⟩, trivial⟩
          exact RO.fin (by kernel_rfl) ⟨zP, zL, k1, l1, rfl, ⟨rfl, rfl, rfl, rfl, rfl, rfl, rfl, trivial⟩⟩ (Sub.pick [2, 0, 1, 0, 2, 2] rfl)
        have hk29 := fun (w1 : World) (hI : Inv w [oI zL 28 [(.slice none 0 0), (.slice none 0 0)], oI zP 25 [(.int .i64 0), (.int .i64 0), (.slice none 0 0), (.slice none 0 0)], pI 23 3 p k1, rowI (some ⟨z4, 0, none⟩) 1 28 2 (lC l kl), rowI (some ⟨z3, 0, none⟩) 1 25 4 (pC p k), oI z2 28 (lC l kl), oI z1 25 (pC p k)] w1) => (haveI := tbz hI; ownL w1 l kl (hI.atU hl) hL)
        refine RO.fork [3] (by kernel_rfl) rfl ⟨⟨_, rfl, rfl, l_call ent14 (CallT.op hk29) rfl ?_⟩, trivial⟩
        clear hk29
        rintro vr O' ⟨N, rfl, l1, rfl, rfl⟩
        refine ⟨Sub.pick [6, 6] rfl, ?_⟩
        refine RO.fork [6] (by kernel_rfl) rfl ⟨⟨_, rfl, rfl, l_sb (v := (pV p k1)) (vs := (pC p k1)) 2 inf25 rfl rfl rfl rfl rfl rfl (by simp [putL]) ⟨Sub.pick [6, 6] rfl, ?_⟩⟩, trivial⟩
        refine RO.fork [7] (by kernel_rfl) rfl ⟨⟨_, rfl, rfl, l_sb (v := (lV l l1)) (vs := (lC l l1)) 1 inf28 rfl rfl rfl rfl rfl rfl (by simp [putL]) ⟨Sub.pick [6, 6] rfl, ?_⟩⟩, trivial⟩
        exact RO.fin (by kernel_rfl) ⟨zP, zL, k1, l1, rfl, ⟨rfl, rfl, rfl, rfl, rfl, rfl, rfl, trivial⟩⟩ (Sub.pick [2, 1, 1, 0, 2, 2] rfl)
      have hk29 := fun (w1 : World) (hI : Inv w [oI zL 28 [(.slice none 0 0), (.slice none 0 0)], pI 23 3 p k1, rowI (some ⟨z4, 0, none⟩) 1 28 2 (lC l kl), rowI (some ⟨z3, 0, none⟩) 1 25 4 (pC p k), oI z2 28 (lC l kl), oI z1 25 (pC p k)] w1) => (haveI := tbz hI; ownL w1 l kl (hI.atU hl) hL)
      refine RO.fork [3, 4] (by kernel_rfl) rfl ⟨⟨_, rfl, rfl, l_call ent14 (CallT.op hk29) rfl ?_⟩, ⟨_, rfl, rfl, l_alloc inf25 rfl (fun zP => ⟨Sub.pick [5, 5] rfl, ?_⟩)⟩, trivial⟩
      · clear hk29
        rintro vr O' ⟨N, rfl, l1, rfl, rfl⟩
        refine ⟨Sub.pick [5, 5] rfl, ?_⟩
        refine RO.fork [4] (by kernel_rfl) rfl ⟨⟨_, rfl, rfl, l_alloc inf25 rfl (fun zP => ⟨Sub.pick [6, 6] rfl, ?_⟩)⟩, trivial⟩
        refine RO.fork [6] (by kernel_rfl) rfl ⟨⟨_, rfl, rfl, l_sb (v := (pV p k1)) (vs := (pC p k1)) 0 inf25 rfl rfl rfl rfl rfl rfl (by simp [putL]) ⟨Sub.pick [6, 6] rfl, ?_⟩⟩, trivial⟩
        refine RO.fork [7] (by kernel_rfl) rfl ⟨⟨_, rfl, rfl, l_sb (v := (lV l l1)) (vs := (lC l l1)) 2 inf28 rfl rfl rfl rfl rfl rfl (by simp [putL]) ⟨Sub.pick [6, 6] rfl, ?_⟩⟩, trivial⟩
        exact RO.fin (by kernel_rfl) ⟨zP, zL, k1, l1, rfl, ⟨rfl, rfl, rfl, rfl, rfl, rfl, rfl, trivial⟩⟩ (Sub.pick [0, 1, 1, 0, 2, 2] rfl)
      have hk29 := fun (w1 : World) (hI : Inv w [oI zP 25 [(.int .i64 0), (.int .i64 0), (.slice none 0 0), (.slice none 0 0)], oI zL 28 [(.slice none 0 0), (.slice none 0 0)], pI 23 3 p k1, rowI (some ⟨z4, 0, none⟩) 1 28 2 (lC l kl), rowI (some ⟨z3, 0, none⟩) 1 25 4 (pC p k), oI z2 28 (lC l kl), oI z1 25 (pC p k)] w1) => (haveI := tbz hI; ownL w1 l kl (hI.atU hl) hL)
      refine RO.fork [3] (by kernel_rfl) rfl ⟨⟨_, rfl, rfl, l_call ent14 (CallT.op hk29) rfl ?_⟩, trivial⟩
      clear hk29
      rintro vr O' ⟨N, rfl, l1, rfl, rfl⟩
      refine ⟨Sub.pick [6, 6] rfl, ?_⟩
      refine RO.fork [6] (by kernel_rfl) rfl ⟨⟨_, rfl, rfl, l_sb (v := (pV p k1)) (vs := (pC p k1)) 1 inf25 rfl rfl rfl rfl rfl rfl (by simp [putL]) ⟨Sub.pick [6, 6] rfl, ?_⟩⟩, trivial⟩
      refine RO.fork [7] (by kernel_rfl) rfl ⟨⟨_, rfl, rfl, l_sb (v := (lV l l1)) (vs := (lC l l1)) 2 inf28 rfl rfl rfl rfl rfl rfl (by simp [putL]) ⟨Sub.pick [6, 6] rfl, ?_⟩⟩, trivial⟩
      exact RO.fin (by kernel_rfl) ⟨zP, zL, k1, l1, rfl, ⟨rfl, rfl, rfl, rfl, rfl, rfl, rfl, trivial⟩⟩ (Sub.pick [1, 1, 1, 0, 2, 2] rfl)
    · have hk27 := fun (w1 : World) (hI : Inv w [oI zP 25 [(.int .i64 0), (.int .i64 0), (.slice none 0 0), (.slice none 0 0)], rowI (some ⟨z4, 0, none⟩) 1 28 2 (lC l kl), rowI (some ⟨z3, 0, none⟩) 1 25 4 (pC p k), oI z2 28 (lC l kl), oI z1 25 (pC p k)] w1) => (haveI := tbz hI; copyPar w1 p k (hI.atQ h) hS)
      refine RO.fork [1, 5] (by kernel_rfl) rfl ⟨⟨_, rfl, rfl, l_call ent13 (CallT.op hk27) rfl ?_⟩, ⟨_, rfl, rfl, l_alloc inf28 rfl (fun zL => ⟨Sub.pick [4, 4] rfl, ?_⟩)⟩, trivial⟩
      · clear hk27
        rintro vr O' ⟨N, rfl, k1, rfl, rfl⟩
        refine ⟨Sub.pick [4, 4] rfl, ?_⟩
        have hk29 := fun (w1 : World) (hI : Inv w [pI 23 3 p k1, oI zP 25 [(.int .i64 0), (.int .i64 0), (.slice none 0 0), (.slice none 0 0)], rowI (some ⟨z4, 0, none⟩) 1 28 2 (lC l kl), rowI (some ⟨z3, 0, none⟩) 1 25 4 (pC p k), oI z2 28 (lC l kl), oI z1 25 (pC p k)] w1) => (haveI := tbz hI; ownL w1 l kl (hI.atU hl) hL)
        refine RO.fork [3, 5] (by kernel_rfl) rfl ⟨⟨_, rfl, rfl, l_call ent14 (CallT.op hk29) rfl ?_⟩, ⟨_, rfl, rfl, l_alloc inf28 rfl (fun zL => ⟨Sub.pick [5, 5] rfl, ?_⟩)⟩, trivial⟩
        · clear hk29
          rintro vr O' ⟨N, rfl, l1, rfl, rfl⟩
          refine ⟨Sub.pick [5, 5] rfl, ?_⟩
          refine RO.fork [5] (by kernel_rfl) rfl ⟨⟨_, rfl, rfl, l_alloc inf28 rfl (fun zL => ⟨Sub.pick [6, 6] rfl, ?_⟩)⟩, trivial⟩
          refine RO.fork [6] (by kernel_rfl) rfl ⟨⟨_, rfl, rfl, l_sb (v := (pV p k1)) (vs := (pC p k1)) 3 inf25 rfl rfl rfl rfl rfl rfl (by simp [putL]) ⟨Sub.pick [6, 6] rfl, ?_⟩⟩, trivial⟩
          refine RO.fork [7] (by kernel_rfl) rfl ⟨⟨_, rfl, rfl, l_sb (v := (lV l l1)) (vs := (lC l l1)) 0 inf28 rfl rfl rfl rfl rfl rfl (by simp [putL]) ⟨Sub.pick [6, 6] rfl, ?_⟩⟩, trivial⟩
          exact RO.fin (by kernel_rfl) ⟨zP, zL, k1, l1, rfl, ⟨rfl, rfl, rfl, rfl, rfl, rfl, rfl, trivial⟩⟩ (Sub.pick [3, 0, 1, 0, 2, 2] rfl)
        have hk29 := fun (w1 : World) (hI : Inv w [oI zL 28 [(.slice none 0 0), (.slice none 0 0)], pI 23 3 p k1, oI zP 25 [(.int .i64 0), (.int .i64 0), (.slice none 0 0), (.slice none 0 0)], rowI (some ⟨z4, 0, none⟩) 1 28 2 (lC l kl), rowI (some ⟨z3, 0, none⟩) 1 25 4 (pC p k), oI z2 28 (lC l kl), oI z1 25 (pC p k)] w1) => (haveI := tbz hI; ownL w1 l kl (hI.atU hl) hL)
        refine RO.fork [3] (by kernel_rfl) rfl ⟨⟨_, rfl, rfl, l_call ent14 (CallT.op hk29) rfl ?_⟩, trivial⟩
        clear hk29
        rintro vr O' ⟨N, rfl, l1, rfl, rfl⟩
        refine ⟨Sub.pick [6, 6] rfl, ?_⟩
        refine RO.fork [6] (by kernel_rfl) rfl ⟨⟨_, rfl, rfl, l_sb (v := (pV p k1)) (vs := (pC p k1)) 3 inf25 rfl rfl rfl rfl rfl rfl (by simp [putL]) ⟨Sub.pick [6, 6] rfl, ?_⟩⟩, trivial⟩
        refine RO.fork [7] (by kernel_rfl) rfl ⟨⟨_, rfl, rfl, l_sb (v := (lV l l1)) (vs := (lC l l1)) 1 inf28 rfl rfl rfl rfl rfl rfl (by simp [putL]) ⟨Sub.pick [6, 6] rfl, ?_⟩⟩, trivial⟩
        exact RO.fin (by kernel_rfl) ⟨zP, zL, k1, l1, rfl, ⟨rfl, rfl, rfl, rfl, rfl, rfl, rfl, trivial⟩⟩ (Sub.pick [3, 1, 1, 0, 2, 2] rfl)
      have hk27 := fun (w1 : World) (hI : Inv w [oI zL 28 [(.slice none 0 0), (.slice none 0 0)], oI zP 25 [(.int .i64 0), (.int .i64 0), (.slice none 0 0), (.slice none 0 0)], rowI (some ⟨z4, 0, none⟩) 1 28 2 (lC l kl), rowI (some ⟨z3, 0, none⟩) 1 25 4 (pC p k), oI z2 28 (lC l kl), oI z1 25 (pC p k)] w1) => (haveI := tbz hI; copyPar w1 p k (hI.atQ h) hS)
      refine RO.fork [1] (by kernel_rfl) rfl ⟨⟨_, rfl, rfl, l_call ent13 (CallT.op hk27) rfl ?_⟩, trivial⟩
      clear hk27
      rintro vr O' ⟨N, rfl, k1, rfl, rfl⟩
      refine ⟨Sub.pick [5, 5] rfl, ?_⟩
      have hk29 := fun (w1 : World) (hI : Inv w [pI 23 3 p k1, oI zL 28 [(.slice none 0 0), (.slice none 0 0)], oI zP 25 [(.int .i64 0), (.int .i64 0), (.slice none 0 0), (.slice none 0 0)], rowI (some ⟨z4, 0, none⟩) 1 28 2 (lC l kl), rowI (some ⟨z3, 0, none⟩) 1 25 4 (pC p k), oI z2 28 (lC l kl), oI z1 25 (pC p k)] w1) => (haveI := tbz hI; ownL w1 l kl (hI.atU hl) hL)
      refine RO.fork [3] (by kernel_rfl) rfl ⟨⟨_, rfl, rfl, l_call ent14 (CallT.op hk29) rfl ?_⟩, trivial⟩
      clear hk29
      rintro vr O' ⟨N, rfl, l1, rfl, rfl⟩
      refine ⟨Sub.pick [6, 6] rfl, ?_⟩
      refine RO.fork [6] (by kernel_rfl) rfl ⟨⟨_, rfl, rfl, l_sb (v := (pV p k1)) (vs := (pC p k1)) 3 inf25 rfl rfl rfl rfl rfl rfl (by simp [putL]) ⟨Sub.pick [6, 6] rfl, ?_⟩⟩, trivial⟩
      refine RO.fork [7] (by kernel_rfl) rfl ⟨⟨_, rfl, rfl, l_sb (v := (lV l l1)) (vs := (lC l l1)) 2 inf28 rfl rfl rfl rfl rfl rfl (by simp [putL]) ⟨Sub.pick [6, 6] rfl, ?_⟩⟩, trivial⟩
      exact RO.fin (by kernel_rfl) ⟨zP, zL, k1, l1, rfl, ⟨rfl, rfl, rfl, rfl, rfl, rfl, rfl, trivial⟩⟩ (Sub.pick [3, 2, 1, 0, 2, 2] rfl)
    have hk27 := fun (w1 : World) (hI : Inv w [oI zL 28 [(.slice none 0 0), (.slice none 0 0)], rowI (some ⟨z4, 0, none⟩) 1 28 2 (lC l kl), rowI (some ⟨z3, 0, none⟩) 1 25 4 (pC p k), oI z2 28 (lC l kl), oI z1 25 (pC p k)] w1) => (haveI := tbz hI; copyPar w1 p k (hI.atQ h) hS)
    refine RO.fork [1, 4] (by kernel_rfl) rfl ⟨⟨_, rfl, rfl, l_call ent13 (CallT.op hk27) rfl ?_⟩, ⟨_, rfl, rfl, l_alloc inf25 rfl (fun zP => ⟨Sub.pick [4, 4] rfl, ?_⟩)⟩, trivial⟩
    · clear hk27
      rintro vr O' ⟨N, rfl, k1, rfl, rfl⟩
      refine ⟨Sub.pick [4, 4] rfl, ?_⟩
      have hk29 := fun (w1 : World) (hI : Inv w [pI 23 3 p k1, oI zL 28 [(.slice none 0 0), (.slice none 0 0)], rowI (some ⟨z4, 0, none⟩) 1 28 2 (lC l kl), rowI (some ⟨z3, 0, none⟩) 1 25 4 (pC p k), oI z2 28 (lC l kl), oI z1 25 (pC p k)] w1) => (haveI := tbz hI; ownL w1 l kl (hI.atU hl) hL)
      refine RO.fork [3, 4] (by kernel_rfl) rfl ⟨⟨_, rfl, rfl, l_call ent14 (CallT.op hk29) rfl ?_⟩, ⟨_, rfl, rfl, l_alloc inf25 rfl (fun zP => ⟨Sub.pick [5, 5] rfl, ?_⟩)⟩, trivial⟩
      · clear hk29
        rintro vr O' ⟨N, rfl, l1, rfl, rfl⟩
        refine ⟨Sub.pick [5, 5] rfl, ?_⟩
        refine RO.fork [4] (by kernel_rfl) rfl ⟨⟨_, rfl, rfl, l_alloc inf25 rfl (fun zP => ⟨Sub.pick [6, 6] rfl, ?_⟩)⟩, trivial⟩
        refine RO.fork [6] (by kernel_rfl) rfl ⟨⟨_, rfl, rfl, l_sb (v := (pV p k1)) (vs := (pC p k1)) 0 inf25 rfl rfl rfl rfl rfl rfl (by simp [putL]) ⟨Sub.pick [6, 6] rfl, ?_⟩⟩, trivial⟩
        refine RO.fork [7] (by kernel_rfl) rfl ⟨⟨_, rfl, rfl, l_sb (v := (lV l l1)) (vs := (lC l l1)) 3 inf28 rfl rfl rfl rfl rfl rfl (by simp [putL]) ⟨Sub.pick [6, 6] rfl, ?_⟩⟩, trivial⟩
        exact RO.fin (by kernel_rfl) ⟨zP, zL, k1, l1, rfl, ⟨rfl, rfl, rfl, rfl, rfl, rfl, rfl, trivial⟩⟩ (Sub.pick [0, 2, 1, 0, 2, 2] rfl)
      have hk29 := fun (w1 : World) (hI : Inv w [oI zP 25 [(.int .i64 0), (.int .i64 0), (.slice none 0 0), (.slice none 0 0)], pI 23 3 p k1, oI zL 28 [(.slice none 0 0), (.slice none 0 0)], rowI (some ⟨z4, 0, none⟩) 1 28 2 (lC l kl), rowI (some ⟨z3, 0, none⟩) 1 25 4 (pC p k), oI z2 28 (lC l kl), oI z1 25 (pC p k)] w1) => (haveI := tbz hI; ownL w1 l kl (hI.atU hl) hL)
      refine RO.fork [3] (by kernel_rfl) rfl ⟨⟨_, rfl, rfl, l_call ent14 (CallT.op hk29) rfl ?_⟩, trivial⟩
      clear hk29
      rintro vr O' ⟨N, rfl, l1, rfl, rfl⟩
      refine ⟨Sub.pick [6, 6] rfl, ?_⟩
      refine RO.fork [6] (by kernel_rfl) rfl ⟨⟨_, rfl, rfl, l_sb (v := (pV p k1)) (vs := (pC p k1)) 1 inf25 rfl rfl rfl rfl rfl rfl (by simp [putL]) ⟨Sub.pick [6, 6] rfl, ?_⟩⟩, trivial⟩
      refine RO.fork [7] (by kernel_rfl) rfl ⟨⟨_, rfl, rfl, l_sb (v := (lV l l1)) (vs := (lC l l1)) 3 inf28 rfl rfl rfl rfl rfl rfl (by simp [putL]) ⟨Sub.pick [6, 6] rfl, ?_⟩⟩, trivial⟩
      exact RO.fin (by kernel_rfl) ⟨zP, zL, k1, l1, rfl, ⟨rfl, rfl, rfl, rfl, rfl, rfl, rfl, trivial⟩⟩ (Sub.pick [1, 2, 1, 0, 2, 2] rfl)
    have hk27 := fun (w1 : World) (hI : Inv w [oI zP 25 [(.int .i64 0), (.int .i64 0), (.slice none 0 0), (.slice none 0 0)], oI zL 28 [(.slice none 0 0), (.slice none 0 0)], rowI (some ⟨z4, 0, none⟩) 1 28 2 (lC l kl), rowI (some ⟨z3, 0, none⟩) 1 25 4 (pC p k), oI z2 28 (lC l kl), oI z1 25 (pC p k)] w1) => (haveI := tbz hI; copyPar w1 p k (hI.atQ h) hS)
    refine RO.fork [1] (by kernel_rfl) rfl ⟨⟨_, rfl, rfl, l_call ent13 (CallT.op hk27) rfl ?_⟩, trivial⟩
    clear hk27
    rintro vr O' ⟨N, rfl, k1, rfl, rfl⟩
    refine ⟨Sub.pick [5, 5] rfl, ?_⟩
    have hk29 := fun (w1 : World) (hI : Inv w [pI 23 3 p k1, oI zP 25 [(.int .i64 0), (.int .i64 0), (.slice none 0 0), (.slice none 0 0)], oI zL 28 [(.slice none 0 0), (.slice none 0 0)], rowI (some ⟨z4, 0, none⟩) 1 28 2 (lC l kl), rowI (some ⟨z3, 0, none⟩) 1 25 4 (pC p k), oI z2 28 (lC l kl), oI z1 25 (pC p k)] w1) => (haveI := tbz hI; ownL w1 l kl (hI.atU hl) hL)
    refine RO.fork [3] (by kernel_rfl) rfl ⟨⟨_, rfl, rfl, l_call ent14 (CallT.op hk29) rfl ?_⟩, trivial⟩
    clear hk29
    rintro vr O' ⟨N, rfl, l1, rfl, rfl⟩
    refine ⟨Sub.pick [6, 6] rfl, ?_⟩
    refine RO.fork [6] (by kernel_rfl) rfl ⟨⟨_, rfl, rfl, l_sb (v := (pV p k1)) (vs := (pC p k1)) 2 inf25 rfl rfl rfl rfl rfl rfl (by simp [putL]) ⟨Sub.pick [6, 6] rfl, ?_⟩⟩, trivial⟩
    refine RO.fork [7] (by kernel_rfl) rfl ⟨⟨_, rfl, rfl, l_sb (v := (lV l l1)) (vs := (lC l l1)) 3 inf28 rfl rfl rfl rfl rfl rfl (by simp [putL]) ⟨Sub.pick [6, 6] rfl, ?_⟩⟩, trivial⟩
    exact RO.fin (by kernel_rfl) ⟨zP, zL, k1, l1, rfl, ⟨rfl, rfl, rfl, rfl, rfl, rfl, rfl, trivial⟩⟩ (Sub.pick [2, 2, 1, 0, 2, 2] rfl)
  rintro ρ O ⟨zP, zL, k1, l1, rfl, hH⟩
  obtain ⟨ρ0, rfl⟩ := hH.elim
  clear hH
  refine T.s (T.rg ?_)
  refine TO.q (q_la 0 underlying25 rfl inf25 rfl rfl rfl) (TO.q (q_la 1 underlying28 rfl inf28 rfl rfl rfl) ?_)
  have hk33 := fun (w1 : World) (hI : Inv w [oI zP 25 (pC p k1), oI zL 28 (lC l l1), pI 23 3 p k1, lI 5 l l1, oI z2 28 (lC l kl), oI z1 25 (pC p k)] w1) => (haveI := tbz hI; parRun w1 p k1 (hI.atP (II := 23) (I := 3) (mG 2 rfl)) hB l l1 (hI.atL (U8 := 5) (mG 3 rfl)) hL)
  refine TO.l rfl (l_call ent15 (CallT.op hk33) rfl ?_)
  clear hk33
  rintro vr O' ⟨N, rfl, rfl, rfl⟩
  refine TO.qm rfl (TO.q (q_extract (vs := _) rfl rfl) (TO.q (q_extract (vs := _) rfl rfl) (TO.qa rfl ?_)))
  refine TO.qa rfl ?_
  refine TO.sub (O' := [oI zP 25 (pC p k1), oI zL 28 (lC l l1), pI 23 3 p k1, lI 5 l l1, oI z2 28 (lC l kl), oI z1 25 (pC p k)]) (Sub.pick [0, 0, 0, 0, 0, 0] rfl) ?_
  refine TO.nl (T.s (T.rg ?_))
  refine TO.q (q_la 5 underlying25 rfl inf25 rfl rfl rfl) (TO.q (q_la 4 underlying28 rfl inf28 rfl rfl rfl) ?_)
  have hk39 := fun (w1 : World) (hI : Inv w [oI zP 25 (pC p k1), oI zL 28 (lC l l1), pI 23 3 p k1, lI 5 l l1, oI z2 28 (lC l kl), oI z1 25 (pC p k)] w1) => (haveI := tbz hI; refParRun w1 p k (hI.atQ h) hB l kl (hI.atU hl) hL)
  refine TO.l rfl (l_call ent16 (CallT.op hk39) rfl ?_)
  clear hk39
  rintro vr O' ⟨N, rfl, rfl, rfl⟩
  refine TO.qm rfl (TO.q (q_extract (vs := _) rfl rfl) (TO.q (q_extract (vs := _) rfl rfl) (TO.qa rfl ?_)))
  refine TO.qa rfl ?_
  refine TO.sub (O' := [oI zP 25 (pC p k1), oI zL 28 (lC l l1), pI 23 3 p k1, lI 5 l l1, oI z2 28 (lC l kl), oI z1 25 (pC p k)]) (Sub.pick [0, 0, 0, 0, 0, 0] rfl) ?_
  refine TO.nl (T.s (T.rg ?_))
  refine TO.q (q_la 0 underlying25 rfl inf25 rfl rfl rfl) (TO.q (q_la 1 underlying28 rfl inf28 rfl rfl rfl) ?_)
  have hk45 := fun (w1 : World) (hI : Inv w [oI zP 25 (pC p k1), oI zL 28 (lC l l1), pI 23 3 p k1, lI 5 l l1, oI z2 28 (lC l kl), oI z1 25 (pC p k)] w1) => (haveI := tbz hI; parAcc w1 p k1 (hI.atP (II := 23) (I := 3) (mG 2 rfl)) hB l l1 (hI.atL (U8 := 5) (mG 3 rfl)) hL)
  refine TO.l rfl (l_call ent17 (CallT.op hk45) rfl ?_)
  clear hk45
  rintro vr O' ⟨N, rfl, rfl, rfl⟩
  refine TO.qm rfl (TO.q (q_extract (vs := _) rfl rfl) (TO.q (q_extract (vs := _) rfl rfl) (TO.qa rfl ?_)))
  refine TO.qa rfl ?_
  refine TO.sub (O' := [oI zP 25 (pC p k1), oI zL 28 (lC l l1), pI 23 3 p k1, lI 5 l l1, oI z2 28 (lC l kl), oI z1 25 (pC p k)]) (Sub.pick [0, 0, 0, 0, 0, 0] rfl) ?_
  refine TO.nl (T.s (T.rg ?_))
  refine TO.q (q_la 0 underlying25 rfl inf25 rfl rfl rfl) ?_
  have hk50 := fun (w1 : World) (hI : Inv w [oI zP 25 (pC p k1), oI zL 28 (lC l l1), pI 23 3 p k1, lI 5 l l1, oI z2 28 (lC l kl), oI z1 25 (pC p k)] w1) => (haveI := tbz hI; (show PureT _ _ _ _ _ from by
      have h9 := parCo w1 p k1 (hI.atP (II := 23) (I := 3) (mG 2 rfl)) hB
      rw [eC] at h9
      exact h9))
  refine TO.l rfl (l_call ent18 (CallT.op hk50) rfl ?_)
  clear hk50
  rintro vr O' ⟨N, rfl, k5, rfl, rfl⟩
  refine TO.qm rfl (TO.q (q_extract (vs := _) rfl rfl) (TO.q (q_extract (vs := _) rfl rfl) ?_))
  refine TO.l rfl (l_alloc inf25 rfl (fun z5 => ?_))
  refine TO.l rfl (l_sb (v := (pV C k5)) (vs := (pC C k5)) 0 inf25 rfl rfl rfl rfl rfl rfl (by simp [putL]) ?_)
  refine TO.qa rfl ?_
  refine TO.sub (O' := [oI z5 25 (pC C k5), pI 23 3 C k5, oI zP 25 (pC p k1), oI zL 28 (lC l l1), pI 23 3 p k1, lI 5 l l1, oI z2 28 (lC l kl), oI z1 25 (pC p k)]) (Sub.pick [0, 0, 0, 0, 0, 0, 0, 0] rfl) ?_
  refine TO.nl (T.s (T.rg ?_))
  refine TO.q (q_la 7 underlying25 rfl inf25 rfl rfl rfl) ?_
  have hk55 := fun (w1 : World) (hI : Inv w [oI z5 25 (pC C k5), pI 23 3 C k5, oI zP 25 (pC p k1), oI zL 28 (lC l l1), pI 23 3 p k1, lI 5 l l1, oI z2 28 (lC l kl), oI z1 25 (pC p k)] w1) => (haveI := tbz hI; (show PureT _ _ _ _ _ from by
      have h9 := refParCo w1 p k (hI.atQ h) hB
      rw [eC] at h9
      exact h9))
  refine TO.l rfl (l_call ent19 (CallT.op hk55) rfl ?_)
  clear hk55
  rintro vr O' ⟨N, rfl, k6, rfl, rfl⟩
  refine TO.qm rfl (TO.q (q_extract (vs := _) rfl rfl) (TO.q (q_extract (vs := _) rfl rfl) ?_))
  refine TO.l rfl (l_alloc inf25 rfl (fun z6 => ?_))
  refine TO.l rfl (l_sb (v := (pV C k6)) (vs := (pC C k6)) 0 inf25 rfl rfl rfl rfl rfl rfl (by simp [putL]) ?_)
  refine TO.qa rfl ?_
  refine TO.sub (O' := [oI z6 25 (pC C k6), pI 23 3 C k6, oI z5 25 (pC C k5), pI 23 3 C k5, oI zP 25 (pC p k1), oI zL 28 (lC l l1), pI 23 3 p k1, lI 5 l l1, oI z2 28 (lC l kl), oI z1 25 (pC p k)]) (Sub.pick [0, 0, 0, 0, 0, 0, 0, 0, 0, 0] rfl) ?_
  refine TO.nl (T.s (T.s ?_))
  refine T.draws _ [(0, 0), (2, 0), (1, 1), (3, 1), (4, 0), (5, 0), (6, 0), (7, 0), (8, 0), (9, 0), (10, 0), (11, 0), (12, 0), (13, 0), (14, 0), (15, 0), (16, 0), (17, 0), (18, 0), (19, 0), (20, 0), (21, 0), (22, 0), (23, 0), (24, 0), (25, 0), (26, 0), (27, 0), (28, 0), (29, 0), (30, 0), (31, 0), (32, 0), (33, 0), (34, 0), (35, 0), (36, 0), (37, 0), (38, 0), (39, 2), (40, 2), (41, 2)] mixed (drawF_ok (by kernel_rfl)) (Sub.of (List.Sublist.refl _)) (fun _ _ _ h => h) ?_
  refine DO.q rfl (q_la 4 underlying25 rfl inf25 rfl rfl rfl) (DO.q rfl (q_la 9 underlying25 rfl inf25 rfl rfl rfl) ?_)
  have hk59 := fun (w1 : World) (hI : Inv w [oI z6 25 (pC C k6), pI 23 3 C k6, oI z5 25 (pC C k5), pI 23 3 C k5, oI zP 25 (pC p k1), oI zL 28 (lC l l1), pI 23 3 p k1, lI 5 l l1, oI z2 28 (lC l kl), oI z1 25 (pC p k)] w1) => (haveI := tbz hI; parCheck w1 p k1 (hI.atP (II := 23) (I := 3) (mG 6 rfl)) hB)
  refine DO.loud rfl rfl (l_call ent20 (CallT.op hk59) rfl ?_)
  clear hk59
  rintro vr O' ⟨N, rfl, rfl, rfl⟩
  refine ⟨Sub.pick [0, 0, 0, 0, 0, 0, 0, 0, 0, 0] rfl, ?_⟩
  have hk61 := fun (w1 : World) (hI : Inv w [oI z6 25 (pC C k6), pI 23 3 C k6, oI z5 25 (pC C k5), pI 23 3 C k5, oI zP 25 (pC p k1), oI zL 28 (lC l l1), pI 23 3 p k1, lI 5 l l1, oI z2 28 (lC l kl), oI z1 25 (pC p k)] w1) => (haveI := tbz hI; refParCheck w1 p k (hI.atQ h) hB)
  refine DO.loud rfl rfl (l_call ent21 (CallT.op hk61) rfl ?_)
  clear hk61
  rintro vr O' ⟨N, rfl, rfl, rfl⟩
  refine ⟨Sub.pick [0, 0, 0, 0, 0, 0, 0, 0, 0, 0] rfl, ?_⟩
  refine DO.q rfl (QT.toB (q_neq rfl rfl) (decide_eq_false (fun h9 => h9 rfl))) (DO.q rfl (q_move rfl) ?_)
  refine DO.guarded rfl rfl rfl (q_move rfl) ?_
  refine DO.guarded rfl rfl rfl (q_move rfl) ?_
  refine DO.guarded rfl rfl rfl (QT.toB (q_neq rfl rfl) (decide_eq_false (fun h9 => h9 rfl))) ?_
  refine DO.q rfl (q_pick0 rfl rfl) (DO.q rfl (q_move rfl) ?_)
  refine DO.guarded rfl rfl rfl (q_move rfl) ?_
  refine DO.guarded rfl rfl rfl (q_move rfl) ?_
  refine DO.guarded rfl rfl rfl (QT.toB (q_neq rfl rfl) (decide_eq_false (fun h9 => h9 rfl))) ?_
  refine DO.q rfl (q_pick0 rfl rfl) (DO.q rfl (q_move rfl) ?_)
  refine DO.guarded rfl rfl rfl (q_move rfl) ?_
  refine DO.guarded rfl rfl rfl (q_move rfl) ?_
  refine DO.guarded rfl rfl rfl (QT.toB (q_neq rfl rfl) (decide_eq_false (fun h9 => h9 rfl))) ?_
  refine DO.q rfl (q_pick0 rfl rfl) (DO.q rfl (q_move rfl) ?_)
  refine DO.guarded rfl rfl rfl (q_move rfl) ?_
  refine DO.guarded rfl rfl rfl (q_move rfl) ?_
  by_cases h81 : ((ruE p l : Nat) : Int) = 0
  · refine DO.guarded rfl rfl rfl (QT.toB (q_eql rfl rfl) (decide_eq_true h81)) ?_
    refine DO.guarded rfl rfl rfl (q_move rfl) ?_
    refine DO.guarded rfl rfl rfl (q_move rfl) ?_
    refine DO.guarded rfl rfl rfl (q_remN (a := (ruV p l)) (b := 2) rfl rfl (by omega)) ?_
    refine DO.guarded rfl rfl rfl (q_eql rfl rfl) ?_
    refine DO.guarded rfl rfl rfl (q_pick1 rfl rfl) ?_
    refine DO.guarded rfl rfl rfl (QT.cast (q_bneq underlying4 rfl rfl) (v' := .bool false) (by rw [acB_pos (by omega)]; exact congrArg Value.bool (bne_self_eq_false _))) ?_
    refine DO.q rfl (q_pick0 rfl rfl) (DO.q rfl (q_move rfl) ?_)
    refine DO.guarded rfl rfl rfl (q_move rfl) ?_
    refine DO.guarded rfl rfl rfl (q_move rfl) ?_
    refine DO.guarded rfl rfl rfl (QT.toB (q_neq rfl rfl) (decide_eq_false (fun h9 => h9 rfl))) ?_
    refine DO.q rfl (q_pick0 rfl rfl) (DO.q rfl (q_move rfl) ?_)
    refine DO.guarded rfl rfl rfl (q_la 2 underlying25 rfl inf25 rfl rfl rfl) ?_
    refine DO.guarded rfl rfl rfl (q_la 0 underlying25 rfl inf25 rfl rfl rfl) ?_
    have hk97 := fun (w1 : World) (hI : Inv w [oI z6 25 (pC C k6), pI 23 3 C k6, oI z5 25 (pC C k5), pI 23 3 C k5, oI zP 25 (pC p k1), oI zL 28 (lC l l1), pI 23 3 p k1, lI 5 l l1, oI z2 28 (lC l kl), oI z1 25 (pC p k)] w1) => (haveI := tbz hI; (show PureT _ _ _ _ _ from by
        have h9 := equalPar w1 C k5 (hI.atP (II := 23) (I := 3) (mG 3 rfl)) C k6 (hI.atP (II := 23) (I := 3) (mG 1 rfl)) hC
        rw [decide_eq_true rfl] at h9
        exact h9))
    refine DO.lastG rfl rfl rfl rfl (l_call ent22 (CallT.op hk97) rfl ?_)
    clear hk97
    rintro vr O' ⟨N, rfl, rfl, rfl⟩
    refine DO.lastG rfl rfl rfl rfl (LT.oq rfl rfl (q_not rfl) ?_)
    refine DO.last rfl rfl (LT.oq rfl rfl (q_pick0 rfl rfl) ?_)
    refine DO.done ?_
    refine T.cond0 rfl ?_
    refine T.skip (T.s (T.rg ?_))
    refine TO.q (q_la 2 underlying25 rfl inf25 rfl rfl rfl) ?_
    have hk101 := CallT.under (B := [oI z6 25 (pC C k6), pI 23 3 C k6, oI z5 25 (pC C k5), oI zP 25 (pC p k1), oI zL 28 (lC l l1), pI 23 3 p k1, lI 5 l l1, oI z2 28 (lC l kl), oI z1 25 (pC p k)]) (O := [oI z6 25 (pC C k6), pI 23 3 C k6, oI z5 25 (pC C k5), pI 23 3 C k5, oI zP 25 (pC p k1), oI zL 28 (lC l l1), pI 23 3 p k1, lI 5 l l1, oI z2 28 (lC l kl), oI z1 25 (pC p k)]) (overPar w C k5 hC) (Sub.pick [3, 0, 0, 0, 0, 0, 0, 0, 0, 0] rfl)
    refine TO.l rfl (l_call ent23 hk101 rfl ?_)
    clear hk101
    rintro vr O' ⟨A1, rfl, rfl⟩
    refine TO.nl (T.s (T.rg ?_))
    refine TO.q (q_la 3 underlying25 rfl inf25 rfl rfl rfl) (TO.q (q_la 8 underlying25 rfl inf25 rfl rfl rfl) ?_)
    have hk104 := fun (w1 : World) (hI : Inv w [oI z6 25 (pC C k6), pI 23 3 C k6, oI z5 25 (pC C k5), oI zP 25 (pC p k1), oI zL 28 (lC l l1), pI 23 3 p k1, lI 5 l l1, oI z2 28 (lC l kl), oI z1 25 (pC p k)] w1) => (haveI := tbz hI; (show PureT _ _ _ _ _ from by
        have h9 := equalPar w1 p k1 (hI.atP (II := 23) (I := 3) (mG 5 rfl)) p k (hI.atQ h) hB
        rw [decide_eq_true rfl] at h9
        exact h9))
    refine TO.l rfl (l_call ent22 (CallT.op hk104) rfl ?_)
    clear hk104
    rintro vr O' ⟨N, rfl, rfl, rfl⟩
    refine TO.qm rfl ?_
    refine TO.gd rfl rfl rfl (LT.oq rfl rfl (q_la 4 underlying28 rfl inf28 rfl rfl rfl) ?_)
    refine TO.gd rfl rfl rfl (LT.oq rfl rfl (q_la 7 underlying28 rfl inf28 rfl rfl rfl) ?_)
    have hk108 := fun (w1 : World) (hI : Inv w [oI z6 25 (pC C k6), pI 23 3 C k6, oI z5 25 (pC C k5), oI zP 25 (pC p k1), oI zL 28 (lC l l1), pI 23 3 p k1, lI 5 l l1, oI z2 28 (lC l kl), oI z1 25 (pC p k)] w1) => (haveI := tbz hI; (show PureT _ _ _ _ _ from by
        have h9 := isF w1 l l1.pb l1.lb l1.pc l1.lc (hI.atL (U8 := 5) (mG 6 rfl)) hL.pre hL.loop l kl.pb kl.lb kl.pc kl.lc (hI.atU hl)
        rw [decide_eq_true rfl] at h9
        exact h9))
    refine TO.gd rfl rfl rfl (l_call ent24 (CallT.op hk108) rfl ?_)
    clear hk108
    rintro vr O' ⟨N, rfl, rfl, rfl⟩
    refine TO.q (q_pick1 rfl rfl) (TO.qm rfl ?_)
    have hk111 := fun (w1 : World) (hI : Inv w [oI z6 25 (pC C k6), pI 23 3 C k6, oI z5 25 (pC C k5), oI zP 25 (pC p k1), oI zL 28 (lC l l1), pI 23 3 p k1, lI 5 l l1, oI z2 28 (lC l kl), oI z1 25 (pC p k)] w1) => (haveI := tbz hI; awakeC w1)
    refine TO.gd rfl rfl rfl (l_call ent12 (CallT.op hk111) rfl ?_)
    clear hk111
    rintro vr O' ⟨N, rfl, rfl, rfl⟩
    refine TO.q (q_pick1 rfl rfl) (TO.qa rfl ?_)
    refine TO.nl (T.ret (Res.drop ?_))
    refine Res.one (.bool true) Tryd.results3 rfl ?_
    exact ⟨[], Sub.of (List.nil_sublist _), rfl, rfl⟩
  refine DO.guarded rfl rfl rfl (QT.toB (q_eql rfl rfl) (decide_eq_false h81)) ?_
  refine DO.guarded rfl rfl rfl (q_move rfl) ?_
  refine DO.passed rfl rfl rfl ?_
  refine DO.passed rfl rfl rfl ?_
  refine DO.passed rfl rfl rfl ?_
  refine DO.guarded rfl rfl rfl (q_pick0 rfl rfl) ?_
  refine DO.guarded rfl rfl rfl (QT.cast (q_bneq underlying4 rfl rfl) (v' := .bool false) (by rw [acB_neg (by omega)]; rfl)) ?_
  refine DO.q rfl (q_pick0 rfl rfl) (DO.q rfl (q_move rfl) ?_)
  refine DO.guarded rfl rfl rfl (q_move rfl) ?_
  refine DO.guarded rfl rfl rfl (q_move rfl) ?_
  refine DO.guarded rfl rfl rfl (QT.toB (q_neq rfl rfl) (decide_eq_false (fun h9 => h9 rfl))) ?_
  refine DO.q rfl (q_pick0 rfl rfl) (DO.q rfl (q_move rfl) ?_)
  refine DO.guarded rfl rfl rfl (q_la 2 underlying25 rfl inf25 rfl rfl rfl) ?_
  refine DO.guarded rfl rfl rfl (q_la 0 underlying25 rfl inf25 rfl rfl rfl) ?_
  have hk97 := fun (w1 : World) (hI : Inv w [oI z6 25 (pC C k6), pI 23 3 C k6, oI z5 25 (pC C k5), pI 23 3 C k5, oI zP 25 (pC p k1), oI zL 28 (lC l l1), pI 23 3 p k1, lI 5 l l1, oI z2 28 (lC l kl), oI z1 25 (pC p k)] w1) => (haveI := tbz hI; (show PureT _ _ _ _ _ from by
      have h9 := equalPar w1 C k5 (hI.atP (II := 23) (I := 3) (mG 3 rfl)) C k6 (hI.atP (II := 23) (I := 3) (mG 1 rfl)) hC
      rw [decide_eq_true rfl] at h9
      exact h9))
  refine DO.lastG rfl rfl rfl rfl (l_call ent22 (CallT.op hk97) rfl ?_)
  clear hk97
  rintro vr O' ⟨N, rfl, rfl, rfl⟩
  refine DO.lastG rfl rfl rfl rfl (LT.oq rfl rfl (q_not rfl) ?_)
  refine DO.last rfl rfl (LT.oq rfl rfl (q_pick0 rfl rfl) ?_)
  refine DO.done ?_
  refine T.cond0 rfl ?_
  refine T.skip (T.s (T.rg ?_))
  refine TO.q (q_la 2 underlying25 rfl inf25 rfl rfl rfl) ?_
  have hk101 := CallT.under (B := [oI z6 25 (pC C k6), pI 23 3 C k6, oI z5 25 (pC C k5), oI zP 25 (pC p k1), oI zL 28 (lC l l1), pI 23 3 p k1, lI 5 l l1, oI z2 28 (lC l kl), oI z1 25 (pC p k)]) (O := [oI z6 25 (pC C k6), pI 23 3 C k6, oI z5 25 (pC C k5), pI 23 3 C k5, oI zP 25 (pC p k1), oI zL 28 (lC l l1), pI 23 3 p k1, lI 5 l l1, oI z2 28 (lC l kl), oI z1 25 (pC p k)]) (overPar w C k5 hC) (Sub.pick [3, 0, 0, 0, 0, 0, 0, 0, 0, 0] rfl)
  refine TO.l rfl (l_call ent23 hk101 rfl ?_)
  clear hk101
  rintro vr O' ⟨A1, rfl, rfl⟩
  refine TO.nl (T.s (T.rg ?_))
  refine TO.q (q_la 3 underlying25 rfl inf25 rfl rfl rfl) (TO.q (q_la 8 underlying25 rfl inf25 rfl rfl rfl) ?_)
  have hk104 := fun (w1 : World) (hI : Inv w [oI z6 25 (pC C k6), pI 23 3 C k6, oI z5 25 (pC C k5), oI zP 25 (pC p k1), oI zL 28 (lC l l1), pI 23 3 p k1, lI 5 l l1, oI z2 28 (lC l kl), oI z1 25 (pC p k)] w1) => (haveI := tbz hI; (show PureT _ _ _ _ _ from by
      have h9 := equalPar w1 p k1 (hI.atP (II := 23) (I := 3) (mG 5 rfl)) p k (hI.atQ h) hB
      rw [decide_eq_true rfl] at h9
      exact h9))
  refine TO.l rfl (l_call ent22 (CallT.op hk104) rfl ?_)
  clear hk104
  rintro vr O' ⟨N, rfl, rfl, rfl⟩
  refine TO.qm rfl ?_
  refine TO.gd rfl rfl rfl (LT.oq rfl rfl (q_la 4 underlying28 rfl inf28 rfl rfl rfl) ?_)
  refine TO.gd rfl rfl rfl (LT.oq rfl rfl (q_la 7 underlying28 rfl inf28 rfl rfl rfl) ?_)
  have hk108 := fun (w1 : World) (hI : Inv w [oI z6 25 (pC C k6), pI 23 3 C k6, oI z5 25 (pC C k5), oI zP 25 (pC p k1), oI zL 28 (lC l l1), pI 23 3 p k1, lI 5 l l1, oI z2 28 (lC l kl), oI z1 25 (pC p k)] w1) => (haveI := tbz hI; (show PureT _ _ _ _ _ from by
      have h9 := isF w1 l l1.pb l1.lb l1.pc l1.lc (hI.atL (U8 := 5) (mG 6 rfl)) hL.pre hL.loop l kl.pb kl.lb kl.pc kl.lc (hI.atU hl)
      rw [decide_eq_true rfl] at h9
      exact h9))
  refine TO.gd rfl rfl rfl (l_call ent24 (CallT.op hk108) rfl ?_)
  clear hk108
  rintro vr O' ⟨N, rfl, rfl, rfl⟩
  refine TO.q (q_pick1 rfl rfl) (TO.qm rfl ?_)
  have hk111 := fun (w1 : World) (hI : Inv w [oI z6 25 (pC C k6), pI 23 3 C k6, oI z5 25 (pC C k5), oI zP 25 (pC p k1), oI zL 28 (lC l l1), pI 23 3 p k1, lI 5 l l1, oI z2 28 (lC l kl), oI z1 25 (pC p k)] w1) => (haveI := tbz hI; awakeC w1)
  refine TO.gd rfl rfl rfl (l_call ent12 (CallT.op hk111) rfl ?_)
  clear hk111
  rintro vr O' ⟨N, rfl, rfl, rfl⟩
  refine TO.q (q_pick1 rfl rfl) (TO.qa rfl ?_)
  refine TO.nl (T.ret (Res.drop ?_))
  refine Res.one (.bool true) Tryd.results3 rfl ?_
  exact ⟨[], Sub.of (List.nil_sublist _), rfl, rfl⟩
end Go.Proofs.YtnikhiohindggaaDoor

