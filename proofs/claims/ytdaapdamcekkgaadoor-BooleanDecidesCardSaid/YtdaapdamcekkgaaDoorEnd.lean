/- Contracts of functions of the program (PA, BolC, Awk, PB, Close, End): what each call answers and that it leaves memory as it was. Conditions: those each theorem names. -/
import Derived.Test.YtdaapdamcekkgaaDoorRun
import Derived.Test.YtdaapdamcekkgaaDoorBol2
import Derived.OpenShut
import Derived.Deep.DeepHandedRow
import Derived.Deep.Matrix
import Derived.Deep.Grids
import Derived.WideKeyArgs
import Derived.SizedLaws
import Derived.Test.YtdaapdamcekkgaaDoorDec
import Derived.Test.YtdaapdamcekkgaaDoorCards
import Derived.Test.YtdaapdamcekkgaaDoorTie
import Derived.WalkKit
import Derived.ProofKit
import Derived.Lib.LaidTab
import Derived.Test.YtdaapdamcekkgaaDoorCoreR
set_option linter.unusedSectionVars false
set_option linter.unusedSimpArgs false
set_option linter.unusedVariables false
set_option linter.unnecessarySimpa false
namespace Go.Proofs.YtdaapdamcekkgaaDoor
open Go.Lx Go.RowKit
set_option linter.unusedVariables false
set_option linter.unusedSimpArgs false
set_option maxHeartbeats 1000000 in
set_option maxRecDepth 20000 in
theorem accF (w : World) (a : DFA) (j : DK) (ha : At w a j) (haa : a.next.length < 9223372036854775807) (haar : ∀ r ∈ a.next, r.length < 9223372036854775807) (haaf : a.final.length < 9223372036854775807) (wb : Option Addr) (wc : Nat) (l : List Nat) (hW : Sl w wb (byts l)) (hwb : l.length < 9223372036854775807) (hw8 : ∀ x ∈ l, x < 256) :
    PureT Tryd.prog 28 [dV a j, .slice wb l.length wc] w fun v N => v = .bool (accV a l) ∧ N = [] := by
  refine CallT.enter Tryd.func28 rfl Tryd.ntmps28 rfl ?_
  refine T.seq (T.region ?_)
  refine TO.loud rfl (l_box (v := (dV a j)) (cs := (dC a j)) rfl rfl (fun bx1 => ?_))
  refine TO.quiet (q_assign rfl) ?_
  refine TO.nil (T.seq (T.region ?_))
  refine TO.quiet (q_load_boxAgg 0 Tryd.underlying25 rfl inf25 rfl rfl rfl) (TO.quiet (q_move rfl) ?_)
  have hk10 := fun (w1 : World) (hI : Inv w [oI bx1 25 (dC a j)] w1) => acceptsA w1 a j.nb j.fb j.nc j.fc (vals j.qs) (hI.dfa ha) haa haar haaf wb wc l (hI.sl hW) hwb hw8
  refine TO.loud rfl (l_call ent19 (CallT.of_pure hk10) rfl ?_)
  clear hk10
  rintro vr O' ⟨N, rfl, rfl, rfl⟩
  refine TO.quiet (q_move rfl) (TO.quiet (q_extract (vs := _) rfl rfl) (TO.quiet (q_extract (vs := _) rfl rfl) (TO.quiet (q_assign rfl) ?_)))
  refine TO.quiet (q_assign rfl) ?_
  refine TO.nil (T.seq (T.region ?_))
  refine TO.quiet (q_move rfl) ?_
  by_cases hs14 : (accV a l) = true
  · refine TO.quiet (QT.toB (q_move rfl) (hs14)) ?_
    refine TO.guarded rfl rfl rfl (LT.of_quiet rfl rfl (q_move rfl) ?_)
    refine TO.guarded rfl rfl rfl (LT.of_quiet rfl rfl (q_eql rfl rfl) ?_)
    refine TO.quiet (q_pick1 rfl rfl) (TO.quiet (q_assign rfl) ?_)
    refine TO.nil (T.ret (Res.drop ?_))
    refine Res.one (.bool (decide ((runE a l : Int) = 0))) Tryd.results28 rfl ?_
    exact ⟨[], Sub.z, congrArg Value.bool (by
      by_cases he : runE a l = 0
      · simp_all
      · have h9 : accV a l = false := by unfold accV; rw [if_neg he]
        simp_all), rfl⟩
  refine TO.quiet (QT.toB (q_move rfl) (Bool.eq_false_iff.2 hs14)) ?_
  refine TO.passed rfl rfl ?_
  refine TO.passed rfl rfl ?_
  refine TO.quiet (q_pick0 rfl rfl) (TO.quiet (q_assign rfl) ?_)
  refine TO.nil (T.ret (Res.drop ?_))
  refine Res.one (.bool false) Tryd.results28 rfl ?_
  exact ⟨[], Sub.z, congrArg Value.bool (by
    by_cases he : runE a l = 0
    · simp_all
    · have h9 : accV a l = false := by unfold accV; rw [if_neg he]
      simp_all), rfl⟩
set_option maxHeartbeats 1000000 in
set_option maxRecDepth 20000 in
theorem oneK (w : World) : PureT Tryd.prog 34 [] w fun v N => ∃ k' : DK, v = dV exO k' ∧ N = [dI 52 4 3 exO k'] := by
  refine CallT.enter Tryd.func34 rfl Tryd.ntmps34 rfl ?_
  refine T.seq (T.region ?_)
  refine TO.loud rfl (l_alloc inf25 rfl (fun z1 => ?_))
  refine TO.nil (T.seq (T.region ?_))
  refine TO.loud rfl (l_buildSlice (m := 2) (parts := [(0, .const (.int .i64 2)), (1, .const (.int .i64 1))]) (cs := [.int .i64 2, .int .i64 1]) Tryd.underlying52 inf3 (by decide) (by kernel_rfl) rfl (fun z2 => ?_))
  refine TO.loud rfl (l_buildSlice (m := 2) (parts := [(0, .const (.int .i64 1)), (1, .const (.int .i64 1))]) (cs := [.int .i64 1, .int .i64 1]) Tryd.underlying52 inf3 (by decide) (by kernel_rfl) rfl (fun z3 => ?_))
  refine TO.loud rfl (l_buildSlice (m := 2) (parts := [(0, .const (.int .i64 2)), (1, .const (.int .i64 2))]) (cs := [.int .i64 2, .int .i64 2]) Tryd.underlying52 inf3 (by decide) (by kernel_rfl) rfl (fun z4 => ?_))
  refine TO.loud rfl (l_buildSlice (m := 3) (parts := [(0, .tmp 1), (1, .tmp 2), (2, .tmp 3)]) (cs := [(.slice (some ⟨z2, 0, none⟩) 2 2), (.slice (some ⟨z3, 0, none⟩) 2 2), (.slice (some ⟨z4, 0, none⟩) 2 2)]) Tryd.underlying22 inf52 (by decide) (by kernel_rfl) rfl (fun z5 => ?_))
  refine TO.loud rfl (l_buildSlice (m := 3) (parts := [(0, .const (.bool false)), (1, .const (.bool true)), (2, .const (.bool false))]) (cs := [.bool false, .bool true, .bool false]) Tryd.underlying23 inf4 (by decide) (by kernel_rfl) rfl (fun z6 => ?_))
  refine TO.quiet (q_build (cs := [.int .i64 1, (.int .i64 0), (.slice (some ⟨z5, 0, none⟩) 3 3), (.slice (some ⟨z6, 0, none⟩) 3 3)]) plan25 inf25 (by kernel_rfl)) ?_
  refine TO.loud rfl (l_store_box (v := (.agg #[.int .i64 1, (.int .i64 0), (.slice (some ⟨z5, 0, none⟩) 3 3), (.slice (some ⟨z6, 0, none⟩) 3 3)])) (vs := [.int .i64 1, (.int .i64 0), (.slice (some ⟨z5, 0, none⟩) 3 3), (.slice (some ⟨z6, 0, none⟩) 3 3)]) 5 inf25 rfl rfl rfl rfl rfl rfl (by simp [putL]) ?_)
  refine TO.nil ?_
  refine T.sub (O' := [rowI (some ⟨z5, 0, none⟩) 3 52 1 [(.slice (some ⟨z2, 0, none⟩) 2 2), (.slice (some ⟨z3, 0, none⟩) 2 2), (.slice (some ⟨z4, 0, none⟩) 2 2)], rowI (some ⟨z6, 0, none⟩) 3 4 1 [.bool false, .bool true, .bool false], rowI (some ⟨z2, 0, none⟩) 2 3 1 [.int .i64 2, .int .i64 1], rowI (some ⟨z3, 0, none⟩) 2 3 1 [.int .i64 1, .int .i64 1], rowI (some ⟨z4, 0, none⟩) 2 3 1 [.int .i64 2, .int .i64 2], oI z1 25 [.int .i64 1, (.int .i64 0), (.slice (some ⟨z5, 0, none⟩) 3 3), (.slice (some ⟨z6, 0, none⟩) 3 3)]]) (by exact Sub.pull [rowI (some ⟨z6, 0, none⟩) 3 4 1 [.bool false, .bool true, .bool false]] _ (.k (.pull [rowI (some ⟨z4, 0, none⟩) 2 3 1 [.int .i64 2, .int .i64 2], rowI (some ⟨z3, 0, none⟩) 2 3 1 [.int .i64 1, .int .i64 1]] _ (.pull [rowI (some ⟨z4, 0, none⟩) 2 3 1 [.int .i64 2, .int .i64 2]] _ (.k (.k .z)))))) ?_
  obtain ⟨k0, hk0⟩ : ∃ k : DK, k = ⟨some ⟨z5, 0, none⟩, 3, some ⟨z6, 0, none⟩, 3, [⟨some ⟨z2, 0, none⟩, 2, [2, 1]⟩, ⟨some ⟨z3, 0, none⟩, 2, [1, 1]⟩, ⟨some ⟨z4, 0, none⟩, 2, [2, 2]⟩]⟩ := ⟨_, rfl⟩
  refine T.sub (O' := (([rowI k0.nb k0.nc 52 1 (vals k0.qs), rowI k0.fb k0.fc 4 1 (bools exO.final)] ++ itms 3 k0.qs) ++ [oI z1 25 [.int .i64 1, (.int .i64 0), (.slice (some ⟨z5, 0, none⟩) 3 3), (.slice (some ⟨z6, 0, none⟩) 3 3)]])) (by subst hk0; exact Sub.rf) ?_
  refine T.pack (φ := nums k0.qs = exO.next) (by subst hk0; rfl) ?_
  refine T.sub (O' := [dI 52 4 3 exO k0, oI z1 25 (dC exO k0)]) (by subst hk0; exact Sub.rf) ?_
  refine T.ret (Res.drop ?_)
  refine Res.cell1 (i := 1) Tryd.results34 Tryd.underlying25 rfl inf25 rfl rfl rfl ?_
  exact ⟨[dI 52 4 3 exO k0], (by exact Sub.k .z), k0, rfl, rfl⟩
set_option maxHeartbeats 1000000 in
set_option maxRecDepth 20000 in
theorem evenK (w : World) : PureT Tryd.prog 39 [] w fun v N => ∃ k' : DK, v = dV exE k' ∧ N = [dI 52 4 3 exE k'] := by
  refine CallT.enter Tryd.func39 rfl Tryd.ntmps39 rfl ?_
  refine T.seq (T.region ?_)
  refine TO.loud rfl (l_alloc inf25 rfl (fun z1 => ?_))
  refine TO.nil (T.seq (T.region ?_))
  refine TO.loud rfl (l_buildSlice (m := 2) (parts := [(0, .const (.int .i64 1)), (1, .const (.int .i64 1))]) (cs := [.int .i64 1, .int .i64 1]) Tryd.underlying52 inf3 (by decide) (by kernel_rfl) rfl (fun z2 => ?_))
  refine TO.loud rfl (l_buildSlice (m := 2) (parts := [(0, .const (.int .i64 0)), (1, .const (.int .i64 0))]) (cs := [.int .i64 0, .int .i64 0]) Tryd.underlying52 inf3 (by decide) (by kernel_rfl) rfl (fun z3 => ?_))
  refine TO.loud rfl (l_buildSlice (m := 2) (parts := [(0, .tmp 1), (1, .tmp 2)]) (cs := [(.slice (some ⟨z2, 0, none⟩) 2 2), (.slice (some ⟨z3, 0, none⟩) 2 2)]) Tryd.underlying22 inf52 (by decide) (by kernel_rfl) rfl (fun z4 => ?_))
  refine TO.loud rfl (l_buildSlice (m := 2) (parts := [(0, .const (.bool true)), (1, .const (.bool false))]) (cs := [.bool true, .bool false]) Tryd.underlying23 inf4 (by decide) (by kernel_rfl) rfl (fun z5 => ?_))
  refine TO.quiet (q_build (cs := [.int .i64 1, (.int .i64 0), (.slice (some ⟨z4, 0, none⟩) 2 2), (.slice (some ⟨z5, 0, none⟩) 2 2)]) plan25 inf25 (by kernel_rfl)) ?_
  refine TO.loud rfl (l_store_box (v := (.agg #[.int .i64 1, (.int .i64 0), (.slice (some ⟨z4, 0, none⟩) 2 2), (.slice (some ⟨z5, 0, none⟩) 2 2)])) (vs := [.int .i64 1, (.int .i64 0), (.slice (some ⟨z4, 0, none⟩) 2 2), (.slice (some ⟨z5, 0, none⟩) 2 2)]) 4 inf25 rfl rfl rfl rfl rfl rfl (by simp [putL]) ?_)
  refine TO.nil ?_
  refine T.sub (O' := [rowI (some ⟨z4, 0, none⟩) 2 52 1 [(.slice (some ⟨z2, 0, none⟩) 2 2), (.slice (some ⟨z3, 0, none⟩) 2 2)], rowI (some ⟨z5, 0, none⟩) 2 4 1 [.bool true, .bool false], rowI (some ⟨z2, 0, none⟩) 2 3 1 [.int .i64 1, .int .i64 1], rowI (some ⟨z3, 0, none⟩) 2 3 1 [.int .i64 0, .int .i64 0], oI z1 25 [.int .i64 1, (.int .i64 0), (.slice (some ⟨z4, 0, none⟩) 2 2), (.slice (some ⟨z5, 0, none⟩) 2 2)]]) (by exact Sub.pull [rowI (some ⟨z5, 0, none⟩) 2 4 1 [.bool true, .bool false]] _ (.k (.pull [rowI (some ⟨z3, 0, none⟩) 2 3 1 [.int .i64 0, .int .i64 0]] _ (.k (.k .z))))) ?_
  obtain ⟨k0, hk0⟩ : ∃ k : DK, k = ⟨some ⟨z4, 0, none⟩, 2, some ⟨z5, 0, none⟩, 2, [⟨some ⟨z2, 0, none⟩, 2, [1, 1]⟩, ⟨some ⟨z3, 0, none⟩, 2, [0, 0]⟩]⟩ := ⟨_, rfl⟩
  refine T.sub (O' := (([rowI k0.nb k0.nc 52 1 (vals k0.qs), rowI k0.fb k0.fc 4 1 (bools exE.final)] ++ itms 3 k0.qs) ++ [oI z1 25 [.int .i64 1, (.int .i64 0), (.slice (some ⟨z4, 0, none⟩) 2 2), (.slice (some ⟨z5, 0, none⟩) 2 2)]])) (by subst hk0; exact Sub.rf) ?_
  refine T.pack (φ := nums k0.qs = exE.next) (by subst hk0; rfl) ?_
  refine T.sub (O' := [dI 52 4 3 exE k0, oI z1 25 (dC exE k0)]) (by subst hk0; exact Sub.rf) ?_
  refine T.ret (Res.drop ?_)
  refine Res.cell1 (i := 1) Tryd.results39 Tryd.underlying25 rfl inf25 rfl rfl rfl ?_
  exact ⟨[dI 52 4 3 exE k0], (by exact Sub.k .z), k0, rfl, rfl⟩
set_option maxHeartbeats 4000000 in
set_option maxRecDepth 20000 in
theorem awakeC (w : World) : PureT Tryd.prog 11 [] w fun v N => v = .bool true ∧ N = [] := by
  refine CallT.enter Tryd.func11 rfl Tryd.ntmps11 rfl ?_
  have exO_b := min_bounds exO_has
  have exE_b := min_bounds exE_has
  obtain ⟨fA1, fA2, fM, fO, fX, fA3⟩ := aw_facts
  have bA := min_bounds (oe_op andB).toHasL
  have bM := min_bounds (oe_op minusB).toHasL
  have bO := min_bounds (oe_op orB).toHasL
  have bX := min_bounds (oe_op xorB).toHasL
  have bN := min_bounds on_has
  have bB := min_bounds nn_has
  have vN := on_min.valid
  have lN := on_len
  have hsB := nn_small
  have eE := nn_eql
  have eW := nn_wrong
  obtain ⟨mA, eA⟩ : ∃ m, opV andB exO exE = m := ⟨_, rfl⟩
  obtain ⟨mM, eM⟩ : ∃ m, opV minusB exO exE = m := ⟨_, rfl⟩
  obtain ⟨mO, eO⟩ : ∃ m, opV orB exO exE = m := ⟨_, rfl⟩
  obtain ⟨mX, eX⟩ : ∃ m, opV xorB exO exE = m := ⟨_, rfl⟩
  have emA := eA
  have emM := eM
  have emO := eO
  have emX := eX
  have eB := nn_not
  have eN := on_not
  obtain ⟨mB, hmB⟩ : ∃ m, notD (notD exO) = m := ⟨_, rfl⟩
  rw [hmB] at eB bB hsB eE eW
  obtain ⟨mN, hmN⟩ : ∃ m, notD exO = m := ⟨_, rfl⟩
  rw [hmN] at eN eB bN vN lN
  rw [eA] at fA1 fA2 fA3 bA
  rw [eM] at fM bM
  rw [eO] at fO bO
  rw [eX] at fX bX
  refine T.seq (T.region ?_)
  refine TO.quiet (q_assign rfl) ?_
  refine TO.nil (T.seq (T.region ?_))
  have hk19 := fun (w1 : World) (hI : Inv w [] w1) => oneK w1
  refine TO.loud rfl (l_call ent34 (CallT.of_pure hk19) rfl ?_)
  clear hk19
  rintro vr O' ⟨N, rfl, ka1, rfl, rfl⟩
  have hk20 := fun (w1 : World) (hI : Inv w [dI 52 4 3 exO ka1] w1) => evenK w1
  refine TO.loud rfl (l_call ent39 (CallT.of_pure hk20) rfl ?_)
  clear hk20
  rintro vr O' ⟨N, rfl, kb1, rfl, rfl⟩
  have hk21 := fun (w1 : World) (hI : Inv w [dI 52 4 3 exE kb1, dI 52 4 3 exO ka1] w1) => (show PureT _ _ _ _ _ from by
      have h9 := andC w1 exO exE ka1 kb1 (hI.at (k := ka1) (List.mem_of_getElem? (i := 1) rfl)) (hI.at (k := kb1) (List.mem_of_getElem? (i := 0) rfl)) exO_b.1 exO_b.2.1 exO_b.2.2 exE_b.1 exE_b.2.1 exE_b.2.2 (oe_small andB)
      rw [oe_wrong, emA] at h9
      exact h9)
  refine TO.loud rfl (l_call ent22 (CallT.of_pure hk21) rfl ?_)
  clear hk21
  rintro vr O' ⟨N, rfl, kmA, rfl, rfl⟩
  refine TO.quiet (q_move rfl) (TO.quiet (q_extract (vs := _) rfl rfl) (TO.quiet (q_extract (vs := _) rfl rfl) ?_))
  refine TO.loud rfl (l_alloc inf25 rfl (fun bx1 => ?_))
  refine TO.loud rfl (l_store_box (v := (dV mA kmA)) (vs := (dC mA kmA)) 0 inf25 rfl rfl rfl rfl rfl rfl (by simp [putL]) ?_)
  refine TO.quiet (q_assign rfl) ?_
  refine TO.sub (O' := [oI bx1 25 (dC mA kmA), dI 52 4 3 mA kmA]) (by exact Sub.k (.k .z)) ?_
  refine TO.nil (T.seq (T.region ?_))
  have hk25 := fun (w1 : World) (hI : Inv w [oI bx1 25 (dC mA kmA), dI 52 4 3 mA kmA] w1) => oneK w1
  refine TO.loud rfl (l_call ent34 (CallT.of_pure hk25) rfl ?_)
  clear hk25
  rintro vr O' ⟨N, rfl, ka2, rfl, rfl⟩
  have hk26 := fun (w1 : World) (hI : Inv w [dI 52 4 3 exO ka2, oI bx1 25 (dC mA kmA), dI 52 4 3 mA kmA] w1) => evenK w1
  refine TO.loud rfl (l_call ent39 (CallT.of_pure hk26) rfl ?_)
  clear hk26
  rintro vr O' ⟨N, rfl, kb2, rfl, rfl⟩
  have hk27 := fun (w1 : World) (hI : Inv w [dI 52 4 3 exE kb2, dI 52 4 3 exO ka2, oI bx1 25 (dC mA kmA), dI 52 4 3 mA kmA] w1) => (show PureT _ _ _ _ _ from by
      have h9 := minusC w1 exO exE ka2 kb2 (hI.at (k := ka2) (List.mem_of_getElem? (i := 1) rfl)) (hI.at (k := kb2) (List.mem_of_getElem? (i := 0) rfl)) exO_b.1 exO_b.2.1 exO_b.2.2 exE_b.1 exE_b.2.1 exE_b.2.2 (oe_small minusB)
      rw [oe_wrong, emM] at h9
      exact h9)
  refine TO.loud rfl (l_call ent25 (CallT.of_pure hk27) rfl ?_)
  clear hk27
  rintro vr O' ⟨N, rfl, kmM, rfl, rfl⟩
  refine TO.quiet (q_move rfl) (TO.quiet (q_extract (vs := _) rfl rfl) (TO.quiet (q_extract (vs := _) rfl rfl) ?_))
  refine TO.loud rfl (l_alloc inf25 rfl (fun bx2 => ?_))
  refine TO.loud rfl (l_store_box (v := (dV mM kmM)) (vs := (dC mM kmM)) 0 inf25 rfl rfl rfl rfl rfl rfl (by simp [putL]) ?_)
  refine TO.quiet (q_assign rfl) ?_
  refine TO.sub (O' := [oI bx2 25 (dC mM kmM), dI 52 4 3 mM kmM, oI bx1 25 (dC mA kmA), dI 52 4 3 mA kmA]) (by exact Sub.k (.k (.d (.d (.k (.k .z)))))) ?_
  refine TO.nil (T.seq (T.region ?_))
  have hk31 := fun (w1 : World) (hI : Inv w [oI bx2 25 (dC mM kmM), dI 52 4 3 mM kmM, oI bx1 25 (dC mA kmA), dI 52 4 3 mA kmA] w1) => oneK w1
  refine TO.loud rfl (l_call ent34 (CallT.of_pure hk31) rfl ?_)
  clear hk31
  rintro vr O' ⟨N, rfl, ka3, rfl, rfl⟩
  have hk32 := fun (w1 : World) (hI : Inv w [dI 52 4 3 exO ka3, oI bx2 25 (dC mM kmM), dI 52 4 3 mM kmM, oI bx1 25 (dC mA kmA), dI 52 4 3 mA kmA] w1) => evenK w1
  refine TO.loud rfl (l_call ent39 (CallT.of_pure hk32) rfl ?_)
  clear hk32
  rintro vr O' ⟨N, rfl, kb3, rfl, rfl⟩
  have hk33 := fun (w1 : World) (hI : Inv w [dI 52 4 3 exE kb3, dI 52 4 3 exO ka3, oI bx2 25 (dC mM kmM), dI 52 4 3 mM kmM, oI bx1 25 (dC mA kmA), dI 52 4 3 mA kmA] w1) => (show PureT _ _ _ _ _ from by
      have h9 := orC w1 exO exE ka3 kb3 (hI.at (k := ka3) (List.mem_of_getElem? (i := 1) rfl)) (hI.at (k := kb3) (List.mem_of_getElem? (i := 0) rfl)) exO_b.1 exO_b.2.1 exO_b.2.2 exE_b.1 exE_b.2.1 exE_b.2.2 (oe_small orB)
      rw [oe_wrong, emO] at h9
      exact h9)
  refine TO.loud rfl (l_call ent23 (CallT.of_pure hk33) rfl ?_)
  clear hk33
  rintro vr O' ⟨N, rfl, kmO, rfl, rfl⟩
  refine TO.quiet (q_move rfl) (TO.quiet (q_extract (vs := _) rfl rfl) (TO.quiet (q_extract (vs := _) rfl rfl) ?_))
  refine TO.loud rfl (l_alloc inf25 rfl (fun bx3 => ?_))
  refine TO.loud rfl (l_store_box (v := (dV mO kmO)) (vs := (dC mO kmO)) 0 inf25 rfl rfl rfl rfl rfl rfl (by simp [putL]) ?_)
  refine TO.quiet (q_assign rfl) ?_
  refine TO.sub (O' := [oI bx3 25 (dC mO kmO), dI 52 4 3 mO kmO, oI bx2 25 (dC mM kmM), dI 52 4 3 mM kmM, oI bx1 25 (dC mA kmA), dI 52 4 3 mA kmA]) (by exact Sub.k (.k (.d (.d (.k (.k (.k (.k .z)))))))) ?_
  refine TO.nil (T.seq (T.region ?_))
  have hk37 := fun (w1 : World) (hI : Inv w [oI bx3 25 (dC mO kmO), dI 52 4 3 mO kmO, oI bx2 25 (dC mM kmM), dI 52 4 3 mM kmM, oI bx1 25 (dC mA kmA), dI 52 4 3 mA kmA] w1) => oneK w1
  refine TO.loud rfl (l_call ent34 (CallT.of_pure hk37) rfl ?_)
  clear hk37
  rintro vr O' ⟨N, rfl, ka4, rfl, rfl⟩
  have hk38 := fun (w1 : World) (hI : Inv w [dI 52 4 3 exO ka4, oI bx3 25 (dC mO kmO), dI 52 4 3 mO kmO, oI bx2 25 (dC mM kmM), dI 52 4 3 mM kmM, oI bx1 25 (dC mA kmA), dI 52 4 3 mA kmA] w1) => evenK w1
  refine TO.loud rfl (l_call ent39 (CallT.of_pure hk38) rfl ?_)
  clear hk38
  rintro vr O' ⟨N, rfl, kb4, rfl, rfl⟩
  have hk39 := fun (w1 : World) (hI : Inv w [dI 52 4 3 exE kb4, dI 52 4 3 exO ka4, oI bx3 25 (dC mO kmO), dI 52 4 3 mO kmO, oI bx2 25 (dC mM kmM), dI 52 4 3 mM kmM, oI bx1 25 (dC mA kmA), dI 52 4 3 mA kmA] w1) => (show PureT _ _ _ _ _ from by
      have h9 := xorC w1 exO exE ka4 kb4 (hI.at (k := ka4) (List.mem_of_getElem? (i := 1) rfl)) (hI.at (k := kb4) (List.mem_of_getElem? (i := 0) rfl)) exO_b.1 exO_b.2.1 exO_b.2.2 exE_b.1 exE_b.2.1 exE_b.2.2 (oe_small xorB)
      rw [oe_wrong, emX] at h9
      exact h9)
  refine TO.loud rfl (l_call ent24 (CallT.of_pure hk39) rfl ?_)
  clear hk39
  rintro vr O' ⟨N, rfl, kmX, rfl, rfl⟩
  refine TO.quiet (q_move rfl) (TO.quiet (q_extract (vs := _) rfl rfl) (TO.quiet (q_extract (vs := _) rfl rfl) ?_))
  refine TO.loud rfl (l_alloc inf25 rfl (fun bx4 => ?_))
  refine TO.loud rfl (l_store_box (v := (dV mX kmX)) (vs := (dC mX kmX)) 0 inf25 rfl rfl rfl rfl rfl rfl (by simp [putL]) ?_)
  refine TO.quiet (q_assign rfl) ?_
  refine TO.sub (O' := [oI bx4 25 (dC mX kmX), dI 52 4 3 mX kmX, oI bx3 25 (dC mO kmO), dI 52 4 3 mO kmO, oI bx2 25 (dC mM kmM), dI 52 4 3 mM kmM, oI bx1 25 (dC mA kmA), dI 52 4 3 mA kmA]) (by exact Sub.k (.k (.d (.d (.k (.k (.k (.k (.k (.k .z)))))))))) ?_
  refine TO.nil (T.seq (T.region ?_))
  have hk43 := fun (w1 : World) (hI : Inv w [oI bx4 25 (dC mX kmX), dI 52 4 3 mX kmX, oI bx3 25 (dC mO kmO), dI 52 4 3 mO kmO, oI bx2 25 (dC mM kmM), dI 52 4 3 mM kmM, oI bx1 25 (dC mA kmA), dI 52 4 3 mA kmA] w1) => oneK w1
  refine TO.loud rfl (l_call ent34 (CallT.of_pure hk43) rfl ?_)
  clear hk43
  rintro vr O' ⟨N, rfl, ka5, rfl, rfl⟩
  have hk44 := fun (w1 : World) (hI : Inv w [dI 52 4 3 exO ka5, oI bx4 25 (dC mX kmX), dI 52 4 3 mX kmX, oI bx3 25 (dC mO kmO), dI 52 4 3 mO kmO, oI bx2 25 (dC mM kmM), dI 52 4 3 mM kmM, oI bx1 25 (dC mA kmA), dI 52 4 3 mA kmA] w1) => evenK w1
  refine TO.loud rfl (l_call ent39 (CallT.of_pure hk44) rfl ?_)
  clear hk44
  rintro vr O' ⟨N, rfl, kb5, rfl, rfl⟩
  have hk45 := fun (w1 : World) (hI : Inv w [dI 52 4 3 exE kb5, dI 52 4 3 exO ka5, oI bx4 25 (dC mX kmX), dI 52 4 3 mX kmX, oI bx3 25 (dC mO kmO), dI 52 4 3 mO kmO, oI bx2 25 (dC mM kmM), dI 52 4 3 mM kmM, oI bx1 25 (dC mA kmA), dI 52 4 3 mA kmA] w1) => (show PureT _ _ _ _ _ from by
      have h9 := inclC w1 exO exE ka5 kb5 (hI.at (k := ka5) (List.mem_of_getElem? (i := 1) rfl)) (hI.at (k := kb5) (List.mem_of_getElem? (i := 0) rfl)) exO_b.1 exO_b.2.1 exO_b.2.2 exE_b.1 exE_b.2.1 exE_b.2.2 (fun _ => by decide)
      rw [oe_wrong] at h9
      exact h9)
  refine TO.loud rfl (l_call ent26 (CallT.of_pure hk45) rfl ?_)
  clear hk45
  rintro vr O' ⟨N, rfl, res, wb, wc, hin, rfl, rfl⟩
  obtain rfl := oe_incl hin
  refine TO.quiet (q_move rfl) (TO.quiet (q_extract (vs := _) rfl rfl) (TO.quiet (q_extract (vs := _) rfl rfl) (TO.quiet (q_extract (vs := _) rfl rfl) ?_)))
  refine TO.quiet (q_assign rfl) (TO.quiet (q_assign rfl) (TO.quiet (q_assign rfl) ?_))
  refine TO.sub (O' := [rowI wb wc 5 1 (byts [1]), oI bx4 25 (dC mX kmX), dI 52 4 3 mX kmX, oI bx3 25 (dC mO kmO), dI 52 4 3 mO kmO, oI bx2 25 (dC mM kmM), dI 52 4 3 mM kmM, oI bx1 25 (dC mA kmA), dI 52 4 3 mA kmA]) (by exact Sub.k (.d (.d (.k (.k (.k (.k (.k (.k (.k (.k .z))))))))))) ?_
  refine TO.nil (T.seq (T.region ?_))
  have hk50 := fun (w1 : World) (hI : Inv w [rowI wb wc 5 1 (byts [1]), oI bx4 25 (dC mX kmX), dI 52 4 3 mX kmX, oI bx3 25 (dC mO kmO), dI 52 4 3 mO kmO, oI bx2 25 (dC mM kmM), dI 52 4 3 mM kmM, oI bx1 25 (dC mA kmA), dI 52 4 3 mA kmA] w1) => oneK w1
  refine TO.loud rfl (l_call ent34 (CallT.of_pure hk50) rfl ?_)
  clear hk50
  rintro vr O' ⟨N, rfl, ka6, rfl, rfl⟩
  have hk51 := fun (w1 : World) (hI : Inv w [dI 52 4 3 exO ka6, rowI wb wc 5 1 (byts [1]), oI bx4 25 (dC mX kmX), dI 52 4 3 mX kmX, oI bx3 25 (dC mO kmO), dI 52 4 3 mO kmO, oI bx2 25 (dC mM kmM), dI 52 4 3 mM kmM, oI bx1 25 (dC mA kmA), dI 52 4 3 mA kmA] w1) => (show PureT _ _ _ _ _ from by
      have h9 := notC w1 exO ka6 (hI.at (k := ka6) (List.mem_of_getElem? (i := 0) rfl)) exO_b.1 exO_b.2.1 exO_b.2.2 (fun _ => by decide)
      rw [on_wrong, eN] at h9
      exact h9)
  refine TO.loud rfl (l_call ent14 (CallT.of_pure hk51) rfl ?_)
  clear hk51
  rintro vr O' ⟨N, rfl, kN, rfl, rfl⟩
  refine TO.quiet (q_move rfl) (TO.quiet (q_extract (vs := _) rfl rfl) (TO.quiet (q_extract (vs := _) rfl rfl) ?_))
  refine TO.loud rfl (l_alloc inf25 rfl (fun bx5 => ?_))
  refine TO.loud rfl (l_store_box (v := (dV mN kN)) (vs := (dC mN kN)) 0 inf25 rfl rfl rfl rfl rfl rfl (by simp [putL]) ?_)
  refine TO.quiet (q_assign rfl) ?_
  refine TO.sub (O' := [oI bx5 25 (dC mN kN), dI 52 4 3 mN kN, rowI wb wc 5 1 (byts [1]), oI bx4 25 (dC mX kmX), dI 52 4 3 mX kmX, oI bx3 25 (dC mO kmO), dI 52 4 3 mO kmO, oI bx2 25 (dC mM kmM), dI 52 4 3 mM kmM, oI bx1 25 (dC mA kmA), dI 52 4 3 mA kmA]) (by exact Sub.k (.k (.d (.k (.k (.k (.k (.k (.k (.k (.k (.k .z)))))))))))) ?_
  refine TO.nil (T.seq (T.region ?_))
  refine TO.quiet (q_load_boxAgg 0 Tryd.underlying25 rfl inf25 rfl rfl rfl) ?_
  have hk56 := fun (w1 : World) (hI : Inv w [oI bx5 25 (dC mN kN), dI 52 4 3 mN kN, rowI wb wc 5 1 (byts [1]), oI bx4 25 (dC mX kmX), dI 52 4 3 mX kmX, oI bx3 25 (dC mO kmO), dI 52 4 3 mO kmO, oI bx2 25 (dC mM kmM), dI 52 4 3 mM kmM, oI bx1 25 (dC mA kmA), dI 52 4 3 mA kmA] w1) => (show PureT _ _ _ _ _ from by
      have h9 := notC w1 mN kN (hI.at (k := kN) (List.mem_of_getElem? (i := 1) rfl)) bN.1 bN.2.1 bN.2.2 (fun _ => by omega)
      rw [checkD_zero.2 vN, eB] at h9
      exact h9)
  refine TO.loud rfl (l_call ent14 (CallT.of_pure hk56) rfl ?_)
  clear hk56
  rintro vr O' ⟨N, rfl, kB, rfl, rfl⟩
  refine TO.quiet (q_move rfl) (TO.quiet (q_extract (vs := _) rfl rfl) (TO.quiet (q_extract (vs := _) rfl rfl) ?_))
  refine TO.loud rfl (l_alloc inf25 rfl (fun bx6 => ?_))
  refine TO.loud rfl (l_store_box (v := (dV mB kB)) (vs := (dC mB kB)) 0 inf25 rfl rfl rfl rfl rfl rfl (by simp [putL]) ?_)
  refine TO.quiet (q_assign rfl) ?_
  refine TO.sub (O' := [oI bx6 25 (dC mB kB), dI 52 4 3 mB kB, oI bx5 25 (dC mN kN), dI 52 4 3 mN kN, rowI wb wc 5 1 (byts [1]), oI bx4 25 (dC mX kmX), dI 52 4 3 mX kmX, oI bx3 25 (dC mO kmO), dI 52 4 3 mO kmO, oI bx2 25 (dC mM kmM), dI 52 4 3 mM kmM, oI bx1 25 (dC mA kmA), dI 52 4 3 mA kmA]) (by exact Sub.rf) ?_
  refine TO.nil (T.seq ?_)
  refine T.draws [oI bx6 25 (dC mB kB), dI 52 4 3 mB kB, oI bx5 25 (dC mN kN), dI 52 4 3 mN kN, rowI wb wc 5 1 (byts [1]), oI bx4 25 (dC mX kmX), dI 52 4 3 mX kmX, oI bx3 25 (dC mO kmO), dI 52 4 3 mO kmO, oI bx2 25 (dC mM kmM), dI 52 4 3 mM kmM, oI bx1 25 (dC mA kmA), dI 52 4 3 mA kmA] [(1, 0), (0, 1), (2, 1), (3, 0), (4, 0), (5, 0), (6, 0), (7, 0)] mixed (by kernel_rfl) (by exact Sub.rf) (fun _ _ _ h => h) ?_
  refine DO.quiet rfl (q_load_boxAgg 0 Tryd.underlying25 rfl inf25 rfl rfl rfl) ?_
  have hk60 := fun (w1 : World) (hI : Inv w [oI bx6 25 (dC mB kB), dI 52 4 3 mB kB, oI bx5 25 (dC mN kN), dI 52 4 3 mN kN, rowI wb wc 5 1 (byts [1]), oI bx4 25 (dC mX kmX), dI 52 4 3 mX kmX, oI bx3 25 (dC mO kmO), dI 52 4 3 mO kmO, oI bx2 25 (dC mM kmM), dI 52 4 3 mM kmM, oI bx1 25 (dC mA kmA), dI 52 4 3 mA kmA] w1) => oneK w1
  refine DO.loud rfl rfl (l_call ent34 (CallT.of_pure hk60) rfl ?_)
  clear hk60
  rintro vr O' ⟨N, rfl, ka7, rfl, rfl⟩
  refine ⟨by exact Sub.d (.k (.k (.k (.k (.k (.k (.k (.k (.k (.k (.k (.k (.k .z))))))))))))), ?_⟩
  have hk62 := fun (w1 : World) (hI : Inv w [dI 52 4 3 exO ka7, oI bx6 25 (dC mB kB), dI 52 4 3 mB kB, oI bx5 25 (dC mN kN), dI 52 4 3 mN kN, rowI wb wc 5 1 (byts [1]), oI bx4 25 (dC mX kmX), dI 52 4 3 mX kmX, oI bx3 25 (dC mO kmO), dI 52 4 3 mO kmO, oI bx2 25 (dC mM kmM), dI 52 4 3 mM kmM, oI bx1 25 (dC mA kmA), dI 52 4 3 mA kmA] w1) => (show PureT _ _ _ _ _ from by
      have h9 := eqlC w1 exO mB ka7 kB (hI.at (k := ka7) (List.mem_of_getElem? (i := 0) rfl)) (hI.at (k := kB) (List.mem_of_getElem? (i := 2) rfl)) exO_b.1 exO_b.2.1 exO_b.2.2 bB.1 bB.2.1 bB.2.2 hsB
      rw [eE, eW] at h9
      exact h9)
  refine DO.loud rfl rfl (l_call ent27 (CallT.of_pure hk62) rfl ?_)
  clear hk62
  rintro vr O' ⟨N, rfl, rfl, rfl⟩
  refine ⟨by exact Sub.d (.k (.k (.k (.k (.k (.k (.k (.k (.k (.k (.k (.k (.k .z))))))))))))), ?_⟩
  refine DO.quiet rfl (q_move rfl) (DO.quiet rfl (q_extract (vs := _) rfl rfl) (DO.quiet rfl (q_extract (vs := _) rfl rfl) (DO.quiet rfl (q_assign rfl) ?_)))
  refine DO.quiet rfl (q_assign rfl) ?_
  refine DO.sub (O' := [oI bx6 25 (dC mB kB), dI 52 4 3 mB kB, oI bx5 25 (dC mN kN), dI 52 4 3 mN kN, rowI wb wc 5 1 (byts [1]), oI bx4 25 (dC mX kmX), dI 52 4 3 mX kmX, oI bx3 25 (dC mO kmO), dI 52 4 3 mO kmO, oI bx2 25 (dC mM kmM), dI 52 4 3 mM kmM, oI bx1 25 (dC mA kmA), dI 52 4 3 mA kmA]) (by exact Sub.d (.k (.k (.k (.k (.k (.k (.k (.k (.k (.k (.k (.k (.k .z)))))))))))))) ?_
  refine DO.done ?_
  refine T.seq (T.seq (T.region ?_))
  refine TO.quiet (q_move rfl) (TO.quiet (QT.toB (q_neq rfl rfl) (decide_eq_false (fun h => h rfl))) (TO.quiet (q_move rfl) ?_))
  refine TO.guarded rfl rfl rfl (LT.of_quiet rfl rfl (q_move rfl) ?_)
  refine TO.guarded rfl rfl rfl (LT.of_quiet rfl rfl (QT.toB (q_neq rfl rfl) (decide_eq_false (fun h => h rfl))) ?_)
  refine TO.quiet (q_pick0 rfl rfl) (TO.quiet (q_move rfl) ?_)
  refine TO.guarded rfl rfl rfl (LT.of_quiet rfl rfl (q_move rfl) ?_)
  refine TO.guarded rfl rfl rfl (LT.of_quiet rfl rfl (QT.toB (q_neq rfl rfl) (decide_eq_false (fun h => h rfl))) ?_)
  refine TO.quiet (q_pick0 rfl rfl) (TO.quiet (q_move rfl) ?_)
  refine TO.guarded rfl rfl rfl (LT.of_quiet rfl rfl (q_move rfl) ?_)
  refine TO.guarded rfl rfl rfl (LT.of_quiet rfl rfl (QT.toB (q_neq rfl rfl) (decide_eq_false (fun h => h rfl))) ?_)
  refine TO.quiet (q_pick0 rfl rfl) (TO.quiet (q_move rfl) ?_)
  refine TO.guarded rfl rfl rfl (LT.of_quiet rfl rfl (q_move rfl) ?_)
  refine TO.guarded rfl rfl rfl (LT.of_quiet rfl rfl (QT.toB (q_neq rfl rfl) (decide_eq_false (fun h => h rfl))) ?_)
  refine TO.quiet (q_pick0 rfl rfl) (TO.quiet (q_move rfl) ?_)
  refine TO.guarded rfl rfl rfl (LT.of_quiet rfl rfl (q_move rfl) ?_)
  refine TO.guarded rfl rfl rfl (LT.of_quiet rfl rfl (QT.toB (q_neq rfl rfl) (decide_eq_false (fun h => h rfl))) ?_)
  refine TO.quiet (q_pick0 rfl rfl) (TO.quiet (q_move rfl) ?_)
  refine TO.guarded rfl rfl rfl (LT.of_quiet rfl rfl (q_move rfl) ?_)
  refine TO.guarded rfl rfl rfl (LT.of_quiet rfl rfl (QT.toB (q_neq rfl rfl) (decide_eq_false (fun h => h rfl))) ?_)
  refine TO.quiet (q_pick0 rfl rfl) (TO.quiet (q_move rfl) ?_)
  refine TO.guarded rfl rfl rfl (LT.of_quiet rfl rfl (q_move rfl) ?_)
  refine TO.guarded rfl rfl rfl (LT.of_quiet rfl rfl (QT.toB (q_neq rfl rfl) (decide_eq_false (fun h => h rfl))) ?_)
  refine TO.quiet (q_pick0 rfl rfl) ?_
  refine TO.nil ?_
  refine T.cond0 rfl ?_
  refine T.skip (T.seq (T.region ?_))
  refine TO.quiet (q_load_boxAgg 11 Tryd.underlying25 rfl inf25 rfl rfl rfl) ?_
  refine TO.loud rfl (l_buildSlice (m := 2) (parts := [(0, .const (.int .u8 1)), (1, .const (.int .u8 0))]) (cs := [.int .u8 1, .int .u8 0]) Tryd.underlying35 inf5 (by decide) (by kernel_rfl) rfl (fun bx7 => ?_))
  have hk97 := fun (w1 : World) (hI : Inv w [rowI (some ⟨bx7, 0, none⟩) 2 5 1 [.int .u8 1, .int .u8 0], oI bx6 25 (dC mB kB), dI 52 4 3 mB kB, oI bx5 25 (dC mN kN), dI 52 4 3 mN kN, rowI wb wc 5 1 (byts [1]), oI bx4 25 (dC mX kmX), dI 52 4 3 mX kmX, oI bx3 25 (dC mO kmO), dI 52 4 3 mO kmO, oI bx2 25 (dC mM kmM), dI 52 4 3 mM kmM, oI bx1 25 (dC mA kmA), dI 52 4 3 mA kmA] w1) => (show PureT _ _ _ _ _ from by
      have h9 := accF w1 mA kmA (hI.at (k := kmA) (List.mem_of_getElem? (i := 13) rfl)) bA.1 bA.2.1 bA.2.2 (some ⟨bx7, 0, none⟩) 2 [1, 0] (hI.slOf (cs := byts [1, 0]) (List.mem_of_getElem? (i := 0) rfl)) (by decide) (by decide)
      rw [fA1] at h9
      exact h9)
  refine TO.loud rfl (l_call ent28 (CallT.of_pure hk97) rfl ?_)
  clear hk97
  rintro vr O' ⟨N, rfl, rfl, rfl⟩
  refine TO.quiet (q_move rfl) ?_
  refine TO.guarded rfl rfl rfl (LT.of_quiet rfl rfl (q_load_boxAgg 12 Tryd.underlying25 rfl inf25 rfl rfl rfl) ?_)
  refine TO.guarded rfl rfl rfl (l_buildSlice (m := 2) (parts := [(0, .const (.int .u8 1)), (1, .const (.int .u8 1))]) (cs := [.int .u8 1, .int .u8 1]) Tryd.underlying35 inf5 (by decide) (by kernel_rfl) rfl (fun bx8 => ?_))
  have hk101 := fun (w1 : World) (hI : Inv w [rowI (some ⟨bx8, 0, none⟩) 2 5 1 [.int .u8 1, .int .u8 1], rowI (some ⟨bx7, 0, none⟩) 2 5 1 [.int .u8 1, .int .u8 0], oI bx6 25 (dC mB kB), dI 52 4 3 mB kB, oI bx5 25 (dC mN kN), dI 52 4 3 mN kN, rowI wb wc 5 1 (byts [1]), oI bx4 25 (dC mX kmX), dI 52 4 3 mX kmX, oI bx3 25 (dC mO kmO), dI 52 4 3 mO kmO, oI bx2 25 (dC mM kmM), dI 52 4 3 mM kmM, oI bx1 25 (dC mA kmA), dI 52 4 3 mA kmA] w1) => (show PureT _ _ _ _ _ from by
      have h9 := accF w1 mA kmA (hI.at (k := kmA) (List.mem_of_getElem? (i := 14) rfl)) bA.1 bA.2.1 bA.2.2 (some ⟨bx8, 0, none⟩) 2 [1, 1] (hI.slOf (cs := byts [1, 1]) (List.mem_of_getElem? (i := 0) rfl)) (by decide) (by decide)
      rw [fA2] at h9
      exact h9)
  refine TO.guarded rfl rfl rfl (l_call ent28 (CallT.of_pure hk101) rfl ?_)
  clear hk101
  rintro vr O' ⟨N, rfl, rfl, rfl⟩
  refine TO.quiet (q_pick1 rfl rfl) (TO.quiet (q_move rfl) ?_)
  refine TO.guarded rfl rfl rfl (LT.of_quiet rfl rfl (q_load_boxAgg 11 Tryd.underlying25 rfl inf25 rfl rfl rfl) ?_)
  refine TO.guarded rfl rfl rfl (l_build1 (v := .int .u8 1) Tryd.underlying35 inf5 rfl rfl rfl (fun bx9 => ?_))
  have hk106 := fun (w1 : World) (hI : Inv w [rowI (some ⟨bx9, 0, none⟩) 1 5 1 [.int .u8 1], rowI (some ⟨bx8, 0, none⟩) 2 5 1 [.int .u8 1, .int .u8 1], rowI (some ⟨bx7, 0, none⟩) 2 5 1 [.int .u8 1, .int .u8 0], oI bx6 25 (dC mB kB), dI 52 4 3 mB kB, oI bx5 25 (dC mN kN), dI 52 4 3 mN kN, rowI wb wc 5 1 (byts [1]), oI bx4 25 (dC mX kmX), dI 52 4 3 mX kmX, oI bx3 25 (dC mO kmO), dI 52 4 3 mO kmO, oI bx2 25 (dC mM kmM), dI 52 4 3 mM kmM, oI bx1 25 (dC mA kmA), dI 52 4 3 mA kmA] w1) => (show PureT _ _ _ _ _ from by
      have h9 := accF w1 mM kmM (hI.at (k := kmM) (List.mem_of_getElem? (i := 13) rfl)) bM.1 bM.2.1 bM.2.2 (some ⟨bx9, 0, none⟩) 1 [1] (hI.slOf (cs := byts [1]) (List.mem_of_getElem? (i := 0) rfl)) (by decide) (by decide)
      rw [fM] at h9
      exact h9)
  refine TO.guarded rfl rfl rfl (l_call ent28 (CallT.of_pure hk106) rfl ?_)
  clear hk106
  rintro vr O' ⟨N, rfl, rfl, rfl⟩
  refine TO.quiet (q_pick1 rfl rfl) (TO.quiet (q_move rfl) ?_)
  refine TO.guarded rfl rfl rfl (LT.of_quiet rfl rfl (q_load_boxAgg 10 Tryd.underlying25 rfl inf25 rfl rfl rfl) ?_)
  have hk110 := fun (w1 : World) (hI : Inv w [rowI (some ⟨bx9, 0, none⟩) 1 5 1 [.int .u8 1], rowI (some ⟨bx8, 0, none⟩) 2 5 1 [.int .u8 1, .int .u8 1], rowI (some ⟨bx7, 0, none⟩) 2 5 1 [.int .u8 1, .int .u8 0], oI bx6 25 (dC mB kB), dI 52 4 3 mB kB, oI bx5 25 (dC mN kN), dI 52 4 3 mN kN, rowI wb wc 5 1 (byts [1]), oI bx4 25 (dC mX kmX), dI 52 4 3 mX kmX, oI bx3 25 (dC mO kmO), dI 52 4 3 mO kmO, oI bx2 25 (dC mM kmM), dI 52 4 3 mM kmM, oI bx1 25 (dC mA kmA), dI 52 4 3 mA kmA] w1) => (show PureT _ _ _ _ _ from by
      have h9 := accF w1 mO kmO (hI.at (k := kmO) (List.mem_of_getElem? (i := 11) rfl)) bO.1 bO.2.1 bO.2.2 none 0 [] (Sl.nil _ none) (by decide) (by decide)
      rw [fO] at h9
      exact h9)
  refine TO.guarded rfl rfl rfl (l_call ent28 (CallT.of_pure hk110) rfl ?_)
  clear hk110
  rintro vr O' ⟨N, rfl, rfl, rfl⟩
  refine TO.quiet (q_pick1 rfl rfl) (TO.quiet (q_move rfl) ?_)
  refine TO.guarded rfl rfl rfl (LT.of_quiet rfl rfl (q_load_boxAgg 8 Tryd.underlying25 rfl inf25 rfl rfl rfl) ?_)
  have hk114 := fun (w1 : World) (hI : Inv w [rowI (some ⟨bx9, 0, none⟩) 1 5 1 [.int .u8 1], rowI (some ⟨bx8, 0, none⟩) 2 5 1 [.int .u8 1, .int .u8 1], rowI (some ⟨bx7, 0, none⟩) 2 5 1 [.int .u8 1, .int .u8 0], oI bx6 25 (dC mB kB), dI 52 4 3 mB kB, oI bx5 25 (dC mN kN), dI 52 4 3 mN kN, rowI wb wc 5 1 (byts [1]), oI bx4 25 (dC mX kmX), dI 52 4 3 mX kmX, oI bx3 25 (dC mO kmO), dI 52 4 3 mO kmO, oI bx2 25 (dC mM kmM), dI 52 4 3 mM kmM, oI bx1 25 (dC mA kmA), dI 52 4 3 mA kmA] w1) => (show PureT _ _ _ _ _ from by
      have h9 := accF w1 mX kmX (hI.at (k := kmX) (List.mem_of_getElem? (i := 9) rfl)) bX.1 bX.2.1 bX.2.2 none 0 [] (Sl.nil _ none) (by decide) (by decide)
      rw [fX] at h9
      exact h9)
  refine TO.guarded rfl rfl rfl (l_call ent28 (CallT.of_pure hk114) rfl ?_)
  clear hk114
  rintro vr O' ⟨N, rfl, rfl, rfl⟩
  refine TO.quiet (q_pick1 rfl rfl) (TO.quiet (q_move rfl) ?_)
  refine TO.guarded rfl rfl rfl (LT.of_quiet rfl rfl (q_load_boxAgg 14 Tryd.underlying25 rfl inf25 rfl rfl rfl) ?_)
  have hk118 := fun (w1 : World) (hI : Inv w [rowI (some ⟨bx9, 0, none⟩) 1 5 1 [.int .u8 1], rowI (some ⟨bx8, 0, none⟩) 2 5 1 [.int .u8 1, .int .u8 1], rowI (some ⟨bx7, 0, none⟩) 2 5 1 [.int .u8 1, .int .u8 0], oI bx6 25 (dC mB kB), dI 52 4 3 mB kB, oI bx5 25 (dC mN kN), dI 52 4 3 mN kN, rowI wb wc 5 1 (byts [1]), oI bx4 25 (dC mX kmX), dI 52 4 3 mX kmX, oI bx3 25 (dC mO kmO), dI 52 4 3 mO kmO, oI bx2 25 (dC mM kmM), dI 52 4 3 mM kmM, oI bx1 25 (dC mA kmA), dI 52 4 3 mA kmA] w1) => (show PureT _ _ _ _ _ from by
      have h9 := accF w1 mA kmA (hI.at (k := kmA) (List.mem_of_getElem? (i := 15) rfl)) bA.1 bA.2.1 bA.2.2 none 0 [] (Sl.nil _ none) (by decide) (by decide)
      rw [fA3] at h9
      exact h9)
  refine TO.guarded rfl rfl rfl (l_call ent28 (CallT.of_pure hk118) rfl ?_)
  clear hk118
  rintro vr O' ⟨N, rfl, rfl, rfl⟩
  refine TO.guarded rfl rfl rfl (LT.of_quiet rfl rfl (q_not rfl) ?_)
  refine TO.quiet (q_pick1 rfl rfl) (TO.quiet (q_move rfl) ?_)
  refine TO.guarded rfl rfl rfl (LT.of_quiet rfl rfl (q_move rfl) ?_)
  refine TO.guarded rfl rfl rfl (l_build1 (v := .int .u8 1) Tryd.underlying35 inf5 rfl rfl rfl (fun bx10 => ?_))
  have hk124 := fun (w1 : World) (hI : Inv w [rowI (some ⟨bx10, 0, none⟩) 1 5 1 [.int .u8 1], rowI (some ⟨bx9, 0, none⟩) 1 5 1 [.int .u8 1], rowI (some ⟨bx8, 0, none⟩) 2 5 1 [.int .u8 1, .int .u8 1], rowI (some ⟨bx7, 0, none⟩) 2 5 1 [.int .u8 1, .int .u8 0], oI bx6 25 (dC mB kB), dI 52 4 3 mB kB, oI bx5 25 (dC mN kN), dI 52 4 3 mN kN, rowI wb wc 5 1 (byts [1]), oI bx4 25 (dC mX kmX), dI 52 4 3 mX kmX, oI bx3 25 (dC mO kmO), dI 52 4 3 mO kmO, oI bx2 25 (dC mM kmM), dI 52 4 3 mM kmM, oI bx1 25 (dC mA kmA), dI 52 4 3 mA kmA] w1) => (show PureT _ _ _ _ _ from by
      have h9 := equalBytes w1 wb (some ⟨bx10, 0, none⟩) wc 1 [1] [1] (hI.slOf (List.mem_of_getElem? (i := 8) rfl)) (hI.slOf (cs := byts [1]) (List.mem_of_getElem? (i := 0) rfl)) (by decide)
      exact h9)
  refine TO.guarded rfl rfl rfl (l_call ent33 (CallT.of_pure hk124) rfl ?_)
  clear hk124
  rintro vr O' ⟨N, rfl, rfl, rfl⟩
  refine TO.quiet (q_pick1 rfl rfl) (TO.quiet (q_move rfl) ?_)
  refine TO.guarded rfl rfl rfl (LT.of_quiet rfl rfl (q_move rfl) ?_)
  refine TO.guarded rfl rfl rfl (LT.of_quiet rfl rfl (q_not rfl) ?_)
  refine TO.quiet (q_pick1 rfl rfl) (TO.quiet (q_move rfl) ?_)
  refine TO.guarded rfl rfl rfl (LT.of_quiet rfl rfl (q_move rfl) ?_)
  refine TO.quiet (q_pick1 rfl rfl) (TO.quiet (q_assign rfl) ?_)
  refine TO.nil (T.ret (Res.drop ?_))
  refine Res.one (.bool true) Tryd.results11 rfl ?_
  exact ⟨[], Sub.z, rfl, rfl⟩
end Go.Proofs.YtdaapdamcekkgaaDoor

namespace Go.Lx
open Go.RowKit
set_option linter.unusedVariables false
def longB (l : List DFA) : Bool := l.any fun d => longD d || decide (8 < d.next.length)
structure Sh (d : DFA) : Prop where
  n8 : d.next.length ≤ 8
  f40 : d.final.length ≤ 40
  r100 : ∀ r ∈ d.next, r.length ≤ 100
theorem sh_of {d : DFA} (h : ¬ (longD d || decide (8 < d.next.length)) = true) : Sh d := by
  simp only [Bool.or_eq_true, not_or, decide_eq_true_eq] at h
  obtain ⟨h1, h2, h3⟩ := longD_false h.1
  exact ⟨by omega, h2, h3⟩
theorem longB_two {a b : DFA} (h : ¬ longB [a, b] = true) : Sh a ∧ Sh b := by
  simp only [longB, List.any_cons, List.any_nil, Bool.or_false, Bool.or_eq_true, not_or] at h
  exact ⟨sh_of (by simp only [Bool.or_eq_true, not_or]; exact h.1), sh_of (by simp only [Bool.or_eq_true, not_or]; exact h.2)⟩
theorem longB_three {a b c : DFA} (h : ¬ longB [a, b, c] = true) : Sh a ∧ Sh b ∧ Sh c := by
  simp only [longB, List.any_cons, List.any_nil, Bool.or_false, Bool.or_eq_true, not_or] at h
  exact ⟨sh_of (by simp only [Bool.or_eq_true, not_or]; exact h.1), sh_of (by simp only [Bool.or_eq_true, not_or]; exact h.2.1), sh_of (by simp only [Bool.or_eq_true, not_or]; exact h.2.2)⟩
theorem Sh.b1 {d : DFA} (h : Sh d) : d.next.length < 9223372036854775807 := by have := h.n8; omega
theorem Sh.b2 {d : DFA} (h : Sh d) : ∀ r ∈ d.next, r.length < 9223372036854775807 := fun r hr => by have := h.r100 r hr; omega
theorem Sh.b3 {d : DFA} (h : Sh d) : d.final.length < 9223372036854775807 := by have := h.f40; omega
theorem Sh.mul {a b : DFA} (ha : Sh a) (hb : Sh b) : a.next.length * b.next.length ≤ 64 := Nat.mul_le_mul ha.n8 hb.n8
theorem Sh.small {a b : DFA} (ha : Sh a) (hb : Sh b) : wrongD a b = 0 → a.next.length * b.next.length ≤ 4096 ∧ ∀ f, (order (prodD f a b)).length < 100 := fun hw => by
  obtain ⟨va, vb, hv⟩ := wrongD_zero.1 hw
  have := ha.mul hb
  exact ⟨by omega, fun f => Nat.lt_of_le_of_lt (pr_order_le va vb hv) (by omega)⟩
theorem Sh.has {d : DFA} (h : Sh d) (hv : Valid d) : HasL d.vars 8 d (acc d) := HasL.of hv h.n8
theorem opV_bounds {f : Bool → Bool → Bool} {a b : DFA} (hn : wrongD a b = 0 → a.next.length * b.next.length ≤ 4096) : (opV f a b).next.length < 9223372036854775807 ∧ (∀ r ∈ (opV f a b).next, r.length < 9223372036854775807) ∧ (opV f a b).final.length < 9223372036854775807 := by
  by_cases hw : wrongD a b = 0
  · rw [opV_ok hw]
    obtain ⟨va, vb, hv⟩ := wrongD_zero.1 hw
    have hV := opD_valid (f := f) va vb hv (hn hw)
    exact ⟨by have := hV.n4; omega, hV.bound, by have := hV.fin; have := hV.n4; omega⟩
  · rw [opV_bad hw]
    exact ⟨by decide, fun r hr => by simp [noD] at hr, by decide⟩
theorem HasL.small {f : Bool → Bool → Bool} {v : Int} {n m : Nat} {a b : DFA} {p q : List Nat → Bool} (ha : HasL v n a p) (hb : HasL v m b q) (h : n * m < 100) : (order (prodD f a b)).length < 100 :=
  Nat.lt_of_le_of_lt (pr_order_le ha.valid hb.valid (by rw [ha.vars, hb.vars])) (Nat.lt_of_le_of_lt (Nat.mul_le_mul ha.len hb.len) h)
theorem HasL.wrong {v : Int} {n m : Nat} {a b : DFA} {p q : List Nat → Bool} (ha : HasL v n a p) (hb : HasL v m b q) : wrongD a b = 0 := wrongD_zero.2 ⟨ha.valid, hb.valid, by rw [ha.vars, hb.vars]⟩
theorem HasL.mulLe {v : Int} {n m : Nat} {a b : DFA} {p q : List Nat → Bool} (ha : HasL v n a p) (hb : HasL v m b q) {N : Nat} (h : n * m ≤ N) : a.next.length * b.next.length ≤ N := Nat.le_trans (Nat.mul_le_mul ha.len hb.len) h
theorem HasL.le {v : Int} {n m : Nat} {a : DFA} {p : List Nat → Bool} (ha : HasL v n a p) (h : a.next.length ≤ m) : HasL v m a p := ⟨ha.valid, h, ha.vars, ha.acc⟩
end Go.Lx

namespace Go.Proofs.YtdaapdamcekkgaaDoor
open Go.Lx Go.RowKit
set_option linter.unusedVariables false
set_option linter.unusedSimpArgs false
theorem equalNats (w : World) (b1 b2 : Option Addr) (c1 c2 m n : Nat) (xs ys : List Nat) (hm : m = xs.length) (hn : n = ys.length) (h1 : Sl w b1 (nats xs)) (h2 : Sl w b2 (nats ys)) (hb : xs.length < 9223372036854775807) :
    PureT Tryd.prog 71 [.slice b1 m c1, .slice b2 n c2] w fun v N => v = .bool (decide (xs = ys)) ∧ N = [] := by
  subst hm; subst hn
  have h := equalInts w b1 b2 c1 c2 (xs.map fun x : Nat => (x : Int)) (ys.map fun x : Nat => (x : Int)) (by simpa [Function.comp_def] using h1) (by simpa [Function.comp_def] using h2) (by simpa using hb)
  have e : decide ((xs.map fun x : Nat => (x : Int)) = ys.map fun x : Nat => (x : Int)) = decide (xs = ys) := decide_eq_decide.2 ⟨fun h => castL h, fun h => by rw [h]⟩
  rw [e, List.length_map, List.length_map] at h
  exact h
theorem equalDFA0 (w : World) (d e : DFA) (nb1 nb2 fb1 fb2 : Option Addr) (nc1 nc2 fc1 fc2 : Nat) (vs us : List Value) (h1 : DfaAt w d nb1 vs fb1) (h2 : DfaAt w e nb2 us fb2) (hb : d.next.length < 9223372036854775807) (hbr : ∀ r ∈ d.next, r.length < 9223372036854775807) (hbf : d.final.length < 9223372036854775807) :
    PureT Tryd.prog 15 [.agg (dfaCells d nb1 nc1 fb1 fc1).toArray, .agg (dfaCells e nb2 nc2 fb2 fc2).toArray] w fun v N => v = .bool (decide (d = e)) ∧ N = [] :=
  (CallT.none (equalDFA w d e nb1 nb2 fb1 fb2 nc1 nc2 fc1 fc2 vs us h1 h2 hb hbr hbf)).mono fun v N ⟨h1, O2, h2, _⟩ => ⟨h2, h1⟩
theorem equalNatsT (w : World) (b1 b2 : Option Addr) (c1 c2 m n : Nat) (xs : List Nat) (hm : m = xs.length) (hn : n = xs.length) (h1 : Sl w b1 (nats xs)) (h2 : Sl w b2 (nats xs)) (hb : xs.length < 9223372036854775807) :
    PureT Tryd.prog 71 [.slice b1 m c1, .slice b2 n c2] w fun v N => v = .bool true ∧ N = [] :=
  (equalNats w b1 b2 c1 c2 m n xs xs hm hn h1 h2 hb).mono fun v N ⟨h1, h2⟩ => ⟨h1.trans (congrArg Value.bool (decide_eq_true rfl)), h2⟩
theorem equalDFAT (w : World) (d : DFA) (nb1 nb2 fb1 fb2 : Option Addr) (nc1 nc2 fc1 fc2 : Nat) (vs us : List Value) (h1 : DfaAt w d nb1 vs fb1) (h2 : DfaAt w d nb2 us fb2) (hb : d.next.length < 9223372036854775807) (hbr : ∀ r ∈ d.next, r.length < 9223372036854775807) (hbf : d.final.length < 9223372036854775807) :
    PureT Tryd.prog 15 [.agg (dfaCells d nb1 nc1 fb1 fc1).toArray, .agg (dfaCells d nb2 nc2 fb2 fc2).toArray] w fun v N => v = .bool true ∧ N = [] :=
  (equalDFA0 w d d nb1 nb2 fb1 fb2 nc1 nc2 fc1 fc2 vs us h1 h2 hb hbr hbf).mono fun v N ⟨h1, h2⟩ => ⟨h1.trans (congrArg Value.bool (decide_eq_true rfl)), h2⟩
theorem classesOkE (w : World) (d : DFA) (nb fb : Option Addr) (nc fc : Nat) (vs : List Value) (h : DfaAt w d nb vs fb) (hv : Valid d) (hn : d.next.length < 100) {xs : List Nat} (hx : itF d d.next.length = xs) :
    PureT Tryd.prog 53 [.agg (dfaCells d nb nc fb fc).toArray] w fun v N => ∃ b c, v = .tuple #[.slice b d.next.length c, .int .i64 0] ∧ N = [rowI b c 3 1 (nats xs)] := by
  subst hx; exact classesOk w d nb fb nc fc vs h hv hn
theorem roundsOkE (w : World) (d : DFA) (nb fb : Option Addr) (nc fc : Nat) (vs : List Value) (h : DfaAt w d nb vs fb) (hv : Valid d) (hn : d.next.length < 100) (k : Int) (hk9 : k ≤ 9223372036854775807) {xs : List Nat} (hx : itF d k.toNat = xs) :
    PureT Tryd.prog 77 [.agg (dfaCells d nb nc fb fc).toArray, .int .i64 k] w fun v N => ∃ b c, v = .tuple #[.slice b d.next.length c, .int .i64 0] ∧ N = [rowI b c 3 1 (nats xs)] := by
  subst hx; exact roundsOk w d nb fb nc fc vs h hv hn k hk9
theorem minOkE (w : World) (d : DFA) (nb fb : Option Addr) (nc fc : Nat) (vs : List Value) (h : DfaAt w d nb vs fb) (hv : Valid d) (hn : d.next.length < 100) {M : DFA} (hM : minD d = M) :
    PureT Tryd.prog 21 [.agg (dfaCells d nb nc fb fc).toArray] w fun v N => ∃ nb' nc' fb' fc' qs, v = .tuple #[.agg (dfaCells M nb' nc' fb' fc').toArray, .int .i64 0] ∧ N = [rowI nb' nc' 52 1 (vals qs), rowI fb' fc' 4 1 (bools M.final)] ++ itms 3 qs ∧ nums qs = M.next := by
  subst hM
  exact minOk w d nb fb nc fc vs h hv hn (quo_itF hv _).1 (Nat.lt_of_le_of_lt (quo_itF hv _).2 hn)
set_option maxHeartbeats 1000000 in
set_option maxRecDepth 20000 in
theorem longC (w : World) (b : Option Addr) (c : Nat) (L : List DRec) (hS : Sl w b (dcells L)) (hD : ∀ r ∈ L, DfaAt w r.d r.nb r.vs r.fb) (hL : L.length < 9223372036854775807) (hB : ∀ r ∈ L, r.d.next.length < 9223372036854775807) :
    PureT Tryd.prog 38 [.slice b L.length c] w fun v N => v = .bool (L.any fun r => longD r.d) ∧ N = [] := by
  refine CallT.enter Tryd.func38 rfl Tryd.ntmps38 rfl ?_
  refine T.seq (T.region ?_)
  refine TO.quiet (q_assign rfl) ?_
  refine TO.nil (T.seq (T.seq (T.region ?_)))
  refine TO.quiet (q_assign rfl) ?_
  refine TO.nil (T.block ?_)
  refine T.loop (fun (i : Nat) ρ O => O = [] ∧ i ≤ L.length ∧ (L.take i).any (fun r => longD r.d) = false ∧ Heads [(0, (.slice b L.length c)), (3, .int .i64 (i : Int))] ρ) (fun i => L.length - i) 0 ?_ ?_
  · exact ⟨rfl, Nat.zero_le _, rfl, ⟨rfl, rfl, trivial⟩⟩
  rintro i ρ O ⟨rfl, hi, hany, hH⟩
  obtain ⟨ρ0, rfl⟩ := hH.elim
  clear hH
  refine T.seq (T.seq (T.region ?_))
  refine TO.quiet (q_move rfl) (TO.quiet (q_move rfl) (TO.quiet (q_len Tryd.underlying48 rfl) (TO.quiet (q_lss rfl rfl) ?_)))
  refine TO.nil ?_
  refine T.condP rfl (fun hc => ?_) (fun hc => ?_)
  · have hlt8 : i < L.length := by omega
    refine T.skip (T.seq (T.block (T.seq (T.seq (T.region ?_)))))
    refine TO.quiet (q_move rfl) (TO.quiet (q_move rfl) (TO.quiet (q_ixK (i := i) Tryd.underlying48 inf25 rfl rfl (Sl.o hS) hlt8 (by rw [dcells_len]; omega)) (TO.quiet (q_fieldEl Tryd.underlying25 rfl inf22 rfl rfl (Sl.o hS) (by rw [dcells_len]; omega)) ?_)))
    refine TO.quiet (q_ld Tryd.underlying22 rfl rfl (Sl.o hS) (show (dcells L)[i * 4 + 2]? = some (.slice L[i].nb L[i].d.next.length L[i].nc) by rw [dcells_get hlt8 (by decide)]; rfl)) (TO.quiet (q_len Tryd.underlying22 rfl) ?_)
    by_cases h1 : (L[i].d.next.length : Int) > 40
    · refine TO.quiet (QT.toB (q_gtr rfl rfl) (decide_eq_true h1)) ?_
      refine TO.quiet (q_move rfl) ?_
      refine TO.passed rfl rfl ?_
      refine TO.passed rfl rfl ?_
      refine TO.passed rfl rfl ?_
      refine TO.passed rfl rfl ?_
      refine TO.passed rfl rfl ?_
      refine TO.passed rfl rfl ?_
      refine TO.passed rfl rfl ?_
      refine TO.quiet (q_pick1 rfl rfl) ?_
      refine TO.nil ?_
      refine T.cond1 rfl ?_
      refine T.seq (T.region ?_)
      refine TO.quiet (q_assign rfl) ?_
      refine TO.nil (T.ret ?_)
      refine Res.one (.bool true) Tryd.results38 rfl ?_
      exact ⟨congrArg Value.bool (any_at hlt8 (by simp only [longD, Bool.or_eq_true, decide_eq_true_eq]; exact .inl (.inl (by omega)))).symm, rfl⟩
    refine TO.quiet (QT.toB (q_gtr rfl rfl) (decide_eq_false h1)) (TO.quiet (q_move rfl) ?_)
    refine TO.guarded rfl rfl rfl (LT.of_quiet rfl rfl (q_move rfl) ?_)
    refine TO.guarded rfl rfl rfl (LT.of_quiet rfl rfl (q_move rfl) ?_)
    refine TO.guarded rfl rfl rfl (LT.of_quiet rfl rfl (q_ixK (i := i) Tryd.underlying48 inf25 rfl rfl (Sl.o hS) hlt8 (by rw [dcells_len]; omega)) ?_)
    refine TO.guarded rfl rfl rfl (LT.of_quiet rfl rfl (q_fieldEl Tryd.underlying25 rfl inf23 rfl rfl (Sl.o hS) (by rw [dcells_len]; omega)) ?_)
    refine TO.guarded rfl rfl rfl (LT.of_quiet rfl rfl (q_ld Tryd.underlying23 rfl rfl (Sl.o hS) (show (dcells L)[i * 4 + 3]? = some (.slice L[i].fb L[i].d.final.length L[i].fc) by rw [dcells_get hlt8 (by decide)]; rfl)) ?_)
    refine TO.guarded rfl rfl rfl (LT.of_quiet rfl rfl (q_len Tryd.underlying23 rfl) ?_)
    by_cases h2 : (L[i].d.final.length : Int) > 40
    · refine TO.guarded rfl rfl rfl (LT.of_quiet rfl rfl (QT.toB (q_gtr rfl rfl) (decide_eq_true h2)) ?_)
      refine TO.quiet (q_pick0 rfl rfl) ?_
      refine TO.nil ?_
      refine T.cond1 rfl ?_
      refine T.seq (T.region ?_)
      refine TO.quiet (q_assign rfl) ?_
      refine TO.nil (T.ret ?_)
      refine Res.one (.bool true) Tryd.results38 rfl ?_
      exact ⟨congrArg Value.bool (any_at hlt8 (by simp only [longD, Bool.or_eq_true, decide_eq_true_eq]; exact .inl (.inr (by omega)))).symm, rfl⟩
    refine TO.guarded rfl rfl rfl (LT.of_quiet rfl rfl (QT.toB (q_gtr rfl rfl) (decide_eq_false h2)) ?_)
    refine TO.quiet (q_pick0 rfl rfl) ?_
    refine TO.nil ?_
    refine T.cond0 rfl ?_
    refine T.skip (T.seq (T.region ?_))
    refine TO.quiet (q_assign rfl) ?_
    refine TO.nil (T.block ?_)
    refine T.loop (fun (s : Nat) ρ O => O = [] ∧ s ≤ L[i].d.next.length ∧ (L[i].d.next.take s).any (fun r => decide (100 < r.length)) = false ∧ Heads [(0, (.slice b L.length c)), (3, .int .i64 (i : Int)), (4, .int .i64 (s : Int))] ρ) (fun s => L[i].d.next.length - s) 0 ?_ ?_
    · exact ⟨rfl, Nat.zero_le _, rfl, ⟨rfl, rfl, rfl, trivial⟩⟩
    rintro s ρ O ⟨rfl, hs, hany2, hH⟩
    obtain ⟨ρ0, rfl⟩ := hH.elim
    clear hH
    refine T.seq (T.seq (T.region ?_))
    refine TO.quiet (q_move rfl) (TO.quiet (q_move rfl) (TO.quiet (q_move rfl) (TO.quiet (q_ixK (i := i) Tryd.underlying48 inf25 rfl rfl (Sl.o hS) hlt8 (by rw [dcells_len]; omega)) ?_)))
    refine TO.quiet (q_fieldEl Tryd.underlying25 rfl inf22 rfl rfl (Sl.o hS) (by rw [dcells_len]; omega)) (TO.quiet (q_ld Tryd.underlying22 rfl rfl (Sl.o hS) (show (dcells L)[i * 4 + 2]? = some (.slice L[i].nb L[i].d.next.length L[i].nc) by rw [dcells_get hlt8 (by decide)]; rfl)) (TO.quiet (q_len Tryd.underlying22 rfl) (TO.quiet (q_lss rfl rfl) ?_)))
    refine TO.nil ?_
    refine T.condP rfl (fun hc => ?_) (fun hc => ?_)
    · have hlt34 : s < L[i].d.next.length := by omega
      obtain ⟨vb, vc, g1, s1⟩ := (hD _ (List.getElem_mem hlt8)).rows.get hlt34
      have hB9 := hB _ (List.getElem_mem hlt8)
      refine T.skip (T.seq (T.block (T.seq (T.region ?_))))
      refine TO.quiet (q_move rfl) (TO.quiet (q_move rfl) (TO.quiet (q_ixK (i := i) Tryd.underlying48 inf25 rfl rfl (Sl.o hS) hlt8 (by rw [dcells_len]; omega)) (TO.quiet (q_fieldEl Tryd.underlying25 rfl inf22 rfl rfl (Sl.o hS) (by rw [dcells_len]; omega)) ?_)))
      refine TO.quiet (q_ld Tryd.underlying22 rfl rfl (Sl.o hS) (show (dcells L)[i * 4 + 2]? = some (.slice L[i].nb L[i].d.next.length L[i].nc) by rw [dcells_get hlt8 (by decide)]; rfl)) (TO.quiet (q_move rfl) (TO.quiet (q_ix (i := s) Tryd.underlying22 inf52 rfl rfl (Sl.o (hD _ (List.getElem_mem hlt8)).outer) hlt34 (by rw [(hD _ (List.getElem_mem hlt8)).rows.1]; exact hlt34)) (TO.quiet (q_ld Tryd.underlying52 rfl rfl (Sl.o (hD _ (List.getElem_mem hlt8)).outer) g1) ?_)))
      refine TO.quiet (q_len Tryd.underlying52 rfl) (TO.quiet (q_gtr rfl rfl) ?_)
      refine TO.nil ?_
      refine T.condP rfl (fun hc => ?_) (fun hc => ?_)
      · have hlt46 : L[i].d.next[s].length > 100 := by omega
        refine T.seq (T.region ?_)
        refine TO.quiet (q_assign rfl) ?_
        refine TO.nil (T.ret ?_)
        refine Res.one (.bool true) Tryd.results38 rfl ?_
        exact ⟨congrArg Value.bool (any_at hlt8 (by simp only [longD, Bool.or_eq_true, decide_eq_true_eq]; exact .inr (any_at hlt34 (by simp; omega)))).symm, rfl⟩
      have hge46 : ¬ L[i].d.next[s].length > 100 := by omega
      refine T.skip (T.region ?_)
      refine TO.quiet (q_move rfl) (TO.quiet (q_inc rfl rfl (by omega)) (TO.quiet (q_assign rfl) ?_))
      refine TO.nil ?_
      exact ⟨s + 1, by omega, rfl, by omega, any_take hlt34 hany2 (by simp; omega), ⟨rfl, rfl, rfl, trivial⟩⟩
    have hge34 : ¬ s < L[i].d.next.length := by omega
    refine T.exit ?_
    refine T.region ?_
    refine TO.quiet (q_move rfl) (TO.quiet (q_inc rfl rfl (by omega)) (TO.quiet (q_assign rfl) ?_))
    refine TO.nil ?_
    have hLi : longD L[i].d = false := by
      simp only [longD, Bool.or_eq_false_iff, decide_eq_false_iff_not]
      exact ⟨⟨by omega, by omega⟩, by rwa [List.take_of_length_le (by omega)] at hany2⟩
    exact ⟨i + 1, by omega, rfl, by omega, any_take hlt8 hany hLi, ⟨rfl, rfl, trivial⟩⟩
  have hge8 : ¬ i < L.length := by omega
  refine T.exit ?_
  refine T.seq (T.region ?_)
  refine TO.quiet (q_assign rfl) ?_
  refine TO.nil (T.ret ?_)
  refine Res.one (.bool false) Tryd.results38 rfl ?_
  exact ⟨congrArg Value.bool (by rw [List.take_of_length_le (by omega)] at hany; exact hany.symm), rfl⟩
theorem long1 (w : World) (b : Option Addr) (c : Nat) (d : DFA) (nb fb : Option Addr) (nc fc : Nat) (vs : List Value) (hS : Sl w b (dfaCells d nb nc fb fc)) (hD : DfaAt w d nb vs fb) (hB : d.next.length < 9223372036854775807) :
    PureT Tryd.prog 38 [.slice b 1 c] w fun v N => v = .bool (decide (longD d = true)) ∧ N = [] :=
  (longC w b c [⟨d, nb, fb, nc, fc, vs⟩] hS (allC hD allN) (show 1 < 9223372036854775807 by decide) (allC hB allN)).mono fun v N ⟨h1, h2⟩ => ⟨by rw [h1]; simp, h2⟩
end Go.Proofs.YtdaapdamcekkgaaDoor

namespace Go.Proofs.YtdaapdamcekkgaaDoor
open Go.Lx Go.RowKit
set_option linter.unusedVariables false
set_option linter.unusedSimpArgs false
set_option maxHeartbeats 1000000 in
set_option maxRecDepth 20000 in
theorem long9C (w : World) (b : Option Addr) (c : Nat) (L : List DRec) (hS : Sl w b (dcells L)) (hD : ∀ r ∈ L, DfaAt w r.d r.nb r.vs r.fb) (hL : L.length < 1000) (hB : ∀ r ∈ L, r.d.next.length < 9223372036854775807) :
    PureT Tryd.prog 10 [.slice b L.length c] w fun v N => v = .bool (longB (L.map DRec.d)) ∧ N = [] := by
  refine CallT.enter Tryd.func10 rfl Tryd.ntmps10 rfl ?_
  refine T.seq (T.region ?_)
  refine TO.quiet (q_assign rfl) ?_
  refine TO.nil (T.seq (T.seq (T.region ?_)))
  refine TO.quiet (q_assign rfl) ?_
  refine TO.nil (T.block ?_)
  refine T.loopS (fun (i : Nat) ρ O => O = [] ∧ i ≤ L.length ∧ longB ((L.map DRec.d).take i) = false ∧ Heads [(0, (.slice b L.length c)), (3, .int .i64 ((i : Nat) : Int))] ρ) (fun i => L.length - i) 0 ?_ ?_
  · exact ⟨rfl, Nat.zero_le _, rfl, ⟨rfl, rfl, trivial⟩⟩
  rintro i ρ O ⟨rfl, hi, hany, hH⟩
  obtain ⟨ρ0, rfl⟩ := hH.elim
  clear hH
  refine T.seq (T.seq (T.region ?_))
  refine TO.quiet (q_move rfl) (TO.quiet (q_move rfl) (TO.quiet (q_len Tryd.underlying48 rfl) (TO.quiet (q_lss rfl rfl) ?_)))
  refine TO.nil ?_
  refine T.condP rfl (fun hc => ?_) (fun hc => ?_)
  · have hlt7 : i < L.length := by omega
    have hD9 := hD _ (List.getElem_mem hlt7)
    have hB9 := hB _ (List.getElem_mem hlt7)
    refine T.skip (T.seq (T.block (T.seq (T.region ?_))))
    refine TO.quiet (q_move rfl) (TO.quiet (q_move rfl) (TO.quiet (q_ixK (i := i) Tryd.underlying48 inf25 rfl rfl (Sl.o hS) hlt7 (by rw [dcells_len]; omega)) (TO.quiet (q_ldK (vs := [(.int .i64 L[i].d.vars), (.int .i64 L[i].d.start), (.slice L[i].nb L[i].d.next.length L[i].nc), (.slice L[i].fb L[i].d.final.length L[i].fc)]) Tryd.underlying25 rfl inf25 rfl rfl (Nat.succ_pos _) (Sl.o hS) (fun j hj => by rw [dcells_get hlt7 hj]; exact List.getElem?_eq_getElem hj)) ?_)))
    refine TO.loud rfl (l_buildSlice (m := 1) (parts := [(0, _)]) (cs := [(.int .i64 L[i].d.vars), (.int .i64 L[i].d.start), (.slice L[i].nb L[i].d.next.length L[i].nc), (.slice L[i].fb L[i].d.final.length L[i].fc)]) Tryd.underlying48 inf25 (by decide) (by kernel_rfl) rfl (fun bx1 => ?_))
    have hk15 := fun (w1 : World) (hI : Inv w [rowI (some ⟨bx1, 0, none⟩) 1 25 4 [(.int .i64 L[i].d.vars), (.int .i64 L[i].d.start), (.slice L[i].nb L[i].d.next.length L[i].nc), (.slice L[i].fb L[i].d.final.length L[i].fc)]] w1) => long1 w1 (some ⟨bx1, 0, none⟩) 1 L[i].d L[i].nb L[i].fb L[i].nc L[i].fc L[i].vs (hI.slOf (List.mem_of_getElem? (i := 0) rfl)) (hI.dfa hD9) hB9
    refine TO.loud rfl (l_call ent38 (CallT.of_pure hk15) rfl ?_)
    clear hk15
    rintro vr O' ⟨N, rfl, rfl, rfl⟩
    by_cases hs16 : longD L[i].d = true
    · refine TO.quiet (QT.toB (q_move rfl) (decide_eq_true hs16)) ?_
      refine TO.passed rfl rfl ?_
      refine TO.passed rfl rfl ?_
      refine TO.passed rfl rfl ?_
      refine TO.passed rfl rfl ?_
      refine TO.passed rfl rfl ?_
      refine TO.passed rfl rfl ?_
      refine TO.passed rfl rfl ?_
      refine TO.quiet (q_pick1 rfl rfl) ?_
      refine TO.nil ?_
      refine T.cond1 rfl ?_
      refine T.seq (T.region ?_)
      refine TO.quiet (q_assign rfl) ?_
      refine TO.nil (T.ret (Res.drop ?_))
      refine Res.one (.bool true) Tryd.results10 rfl ?_
      exact ⟨[], Sub.z, congrArg Value.bool (Eq.symm (List.any_eq_true.2 ⟨L[i].d, List.mem_map_of_mem (List.getElem_mem hlt7), by simp_all⟩)), rfl⟩
    refine TO.quiet (QT.toB (q_move rfl) (decide_eq_false hs16)) ?_
    refine TO.guarded rfl rfl rfl (LT.of_quiet rfl rfl (q_move rfl) ?_)
    refine TO.guarded rfl rfl rfl (LT.of_quiet rfl rfl (q_move rfl) ?_)
    refine TO.guarded rfl rfl rfl (LT.of_quiet rfl rfl (q_ixK (i := i) Tryd.underlying48 inf25 rfl rfl (Sl.o hS) hlt7 (by rw [dcells_len]; omega)) ?_)
    refine TO.guarded rfl rfl rfl (LT.of_quiet rfl rfl (q_fieldEl Tryd.underlying25 rfl inf22 rfl rfl (Sl.o hS) (by rw [dcells_len]; omega)) ?_)
    refine TO.guarded rfl rfl rfl (LT.of_quiet rfl rfl (q_ld Tryd.underlying22 rfl rfl (Sl.o hS) (show (dcells L)[i * 4 + 2]? = some (.slice L[i].nb L[i].d.next.length L[i].nc) by rw [dcells_get hlt7 (by decide)]; rfl)) ?_)
    refine TO.guarded rfl rfl rfl (LT.of_quiet rfl rfl (q_len Tryd.underlying22 rfl) ?_)
    refine TO.guarded rfl rfl rfl (LT.of_quiet rfl rfl (q_gtr rfl rfl) ?_)
    refine TO.quiet (q_pick0 rfl rfl) ?_
    refine TO.nil ?_
    refine T.condP rfl (fun hc => ?_) (fun hc => ?_)
    · have hlt24 : L[i].d.next.length > 8 := by omega
      refine T.seq (T.region ?_)
      refine TO.quiet (q_assign rfl) ?_
      refine TO.nil (T.ret (Res.drop ?_))
      refine Res.one (.bool true) Tryd.results10 rfl ?_
      exact ⟨[], Sub.z, congrArg Value.bool (Eq.symm (List.any_eq_true.2 ⟨L[i].d, List.mem_map_of_mem (List.getElem_mem hlt7), by simp_all⟩)), rfl⟩
    have hge24 : ¬ L[i].d.next.length > 8 := by omega
    refine T.skip (T.region ?_)
    refine TO.quiet (q_move rfl) (TO.quiet (q_addN (a := i) (b := 1) rfl rfl (by omega)) (TO.quiet (q_assign rfl) ?_))
    refine TO.nil ?_
    refine ⟨i + 1, by omega, [], (by exact Sub.z), rfl, by omega, ?_, ⟨rfl, rfl, trivial⟩⟩
    rw [List.take_succ_eq_append_getElem (by rw [List.length_map]; exact hlt7), List.getElem_map]
    unfold longB at hany ⊢
    rw [List.any_append, hany]
    first | (simp_all; done) | (simp_all; omega)
  have hge7 : ¬ i < L.length := by omega
  refine T.exit ?_
  refine T.seq (T.region ?_)
  refine TO.quiet (q_assign rfl) ?_
  refine TO.nil (T.ret (Res.drop ?_))
  refine Res.one (.bool false) Tryd.results10 rfl ?_
  exact ⟨[], Sub.z, congrArg Value.bool (by rw [List.take_of_length_le (by rw [List.length_map]; omega)] at hany; exact hany.symm), rfl⟩
theorem long2 (w : World) (b : Option Addr) (a1 a2 : DFA) (k1 k2 : DK) (hS : Sl w b (dC a1 k1 ++ dC a2 k2)) (h1 : At w a1 k1) (h2 : At w a2 k2) (b1 : a1.next.length < 9223372036854775807) (b2 : a2.next.length < 9223372036854775807) :
    PureT Tryd.prog 10 [.slice b 2 2] w fun v N => v = .bool (longB [a1, a2]) ∧ N = [] :=
  long9C w b 2 [⟨a1, k1.nb, k1.fb, k1.nc, k1.fc, vals k1.qs⟩, ⟨a2, k2.nb, k2.fb, k2.nc, k2.fc, vals k2.qs⟩] hS (allC h1 (allC h2 allN)) (show 2 < 1000 by decide) (allC b1 (allC b2 allN))
theorem long3 (w : World) (b : Option Addr) (a1 a2 a3 : DFA) (k1 k2 k3 : DK) (hS : Sl w b (dC a1 k1 ++ (dC a2 k2 ++ dC a3 k3))) (h1 : At w a1 k1) (h2 : At w a2 k2) (h3 : At w a3 k3) (b1 : a1.next.length < 9223372036854775807) (b2 : a2.next.length < 9223372036854775807) (b3 : a3.next.length < 9223372036854775807) :
    PureT Tryd.prog 10 [.slice b 3 3] w fun v N => v = .bool (longB [a1, a2, a3]) ∧ N = [] :=
  long9C w b 3 [⟨a1, k1.nb, k1.fb, k1.nc, k1.fc, vals k1.qs⟩, ⟨a2, k2.nb, k2.fb, k2.nc, k2.fc, vals k2.qs⟩, ⟨a3, k3.nb, k3.fb, k3.nc, k3.fc, vals k3.qs⟩] hS (allC h1 (allC h2 (allC h3 allN))) (show 3 < 1000 by decide) (allC b1 (allC b2 (allC b3 allN)))
theorem equalK (w : World) (d : DFA) (j k : DK) (h1 : At w d j) (h2 : At w d k) (hb : d.next.length < 9223372036854775807) (hbr : ∀ r ∈ d.next, r.length < 9223372036854775807) (hbf : d.final.length < 9223372036854775807) :
    PureT Tryd.prog 15 [dV d j, dV d k] w fun v N => v = .bool true ∧ N = [] := equalDFAT w d j.nb k.nb j.fb k.fb j.nc k.nc j.fc k.fc (vals j.qs) (vals k.qs) h1 h2 hb hbr hbf
theorem equalK2 (w : World) (d e : DFA) (j k : DK) (h1 : At w d j) (h2 : At w e k) (hb : d.next.length < 9223372036854775807) (hbr : ∀ r ∈ d.next, r.length < 9223372036854775807) (hbf : d.final.length < 9223372036854775807) :
    PureT Tryd.prog 15 [dV d j, dV e k] w fun v N => v = .bool (decide (d = e)) ∧ N = [] := equalDFA0 w d e j.nb k.nb j.fb k.fb j.nc k.nc j.fc k.fc (vals j.qs) (vals k.qs) h1 h2 hb hbr hbf
theorem andK (w : World) {v : Int} {n m : Nat} {a b : DFA} {p q : List Nat → Bool} (ha : HasL v n a p) (hb : HasL v m b q) (j k : DK) (hj : At w a j) (hk : At w b k) (hn : n * m ≤ 4096) (hN : (order (prodD andB a b)).length < 100) {M : DFA} (hM : opD andB a b = M) :
    PureT Tryd.prog 22 [dV a j, dV b k] w fun v N => ∃ k' : DK, v = .tuple #[dV M k', .int .i64 0] ∧ N = [dI 52 4 3 M k'] := by
  have b1 := min_bounds ha
  have b2 := min_bounds hb
  have h := andC w a b j k hj hk b1.1 b1.2.1 b1.2.2 b2.1 b2.2.1 b2.2.2 (fun _ => ⟨ha.mulLe hb hn, hN⟩)
  rw [opV_ok (ha.wrong hb), ha.wrong hb, hM] at h
  exact h
theorem orK (w : World) {v : Int} {n m : Nat} {a b : DFA} {p q : List Nat → Bool} (ha : HasL v n a p) (hb : HasL v m b q) (j k : DK) (hj : At w a j) (hk : At w b k) (hn : n * m ≤ 4096) (hN : (order (prodD orB a b)).length < 100) {M : DFA} (hM : opD orB a b = M) :
    PureT Tryd.prog 23 [dV a j, dV b k] w fun v N => ∃ k' : DK, v = .tuple #[dV M k', .int .i64 0] ∧ N = [dI 52 4 3 M k'] := by
  have b1 := min_bounds ha
  have b2 := min_bounds hb
  have h := orC w a b j k hj hk b1.1 b1.2.1 b1.2.2 b2.1 b2.2.1 b2.2.2 (fun _ => ⟨ha.mulLe hb hn, hN⟩)
  rw [opV_ok (ha.wrong hb), ha.wrong hb, hM] at h
  exact h
theorem xorK (w : World) {v : Int} {n m : Nat} {a b : DFA} {p q : List Nat → Bool} (ha : HasL v n a p) (hb : HasL v m b q) (j k : DK) (hj : At w a j) (hk : At w b k) (hn : n * m ≤ 4096) (hN : (order (prodD xorB a b)).length < 100) {M : DFA} (hM : opD xorB a b = M) :
    PureT Tryd.prog 24 [dV a j, dV b k] w fun v N => ∃ k' : DK, v = .tuple #[dV M k', .int .i64 0] ∧ N = [dI 52 4 3 M k'] := by
  have b1 := min_bounds ha
  have b2 := min_bounds hb
  have h := xorC w a b j k hj hk b1.1 b1.2.1 b1.2.2 b2.1 b2.2.1 b2.2.2 (fun _ => ⟨ha.mulLe hb hn, hN⟩)
  rw [opV_ok (ha.wrong hb), ha.wrong hb, hM] at h
  exact h
theorem minusK (w : World) {v : Int} {n m : Nat} {a b : DFA} {p q : List Nat → Bool} (ha : HasL v n a p) (hb : HasL v m b q) (j k : DK) (hj : At w a j) (hk : At w b k) (hn : n * m ≤ 4096) (hN : (order (prodD minusB a b)).length < 100) {M : DFA} (hM : opD minusB a b = M) :
    PureT Tryd.prog 25 [dV a j, dV b k] w fun v N => ∃ k' : DK, v = .tuple #[dV M k', .int .i64 0] ∧ N = [dI 52 4 3 M k'] := by
  have b1 := min_bounds ha
  have b2 := min_bounds hb
  have h := minusC w a b j k hj hk b1.1 b1.2.1 b1.2.2 b2.1 b2.2.1 b2.2.2 (fun _ => ⟨ha.mulLe hb hn, hN⟩)
  rw [opV_ok (ha.wrong hb), ha.wrong hb, hM] at h
  exact h
theorem notK (w : World) {v : Int} {n : Nat} {a : DFA} {p : List Nat → Bool} (ha : HasL v n a p) (j : DK) (hj : At w a j) (hn : n ≤ 64) {M : DFA} (hM : notD a = M) :
    PureT Tryd.prog 14 [dV a j] w fun v N => ∃ k' : DK, v = .tuple #[dV M k', .int .i64 0] ∧ N = [dI 52 4 3 M k'] := by
  have b1 := min_bounds ha
  have h := notC w a j hj b1.1 b1.2.1 b1.2.2 (fun _ => Nat.le_trans ha.len hn)
  rw [opV_ok (ha.wrong ha), checkD_zero.2 ha.valid, show opD notB a a = M from hM] at h
  exact h
theorem inclK (w : World) {v : Int} {n m : Nat} {a b : DFA} {p q : List Nat → Bool} (ha : HasL v n a p) (hb : HasL v m b q) (j k : DK) (hj : At w a j) (hk : At w b k) (hn : n * m ≤ 64) :
    PureT Tryd.prog 26 [dV a j, dV b k] w fun v N => ∃ res wb wc, LeastA (opD minusB a b) res ∧ v = .tuple #[.slice wb (res.getD []).length wc, .bool (!res.isSome), .int .i64 0] ∧ N = [rowI wb wc 5 1 (byts (res.getD []))] := by
  have b1 := min_bounds ha
  have b2 := min_bounds hb
  refine (inclOk w a b j k hj hk b1.1 b1.2.1 b1.2.2 b2.1 b2.2.1 b2.2.2 (ha.wrong hb) (ha.mulLe hb hn)).mono ?_
  rintro v N ⟨res, wb, wc, h1, h2⟩
  exact ⟨res, wb, wc, (InclA.ok (ha.wrong hb)).1 h1, h2⟩
theorem eqlK (w : World) {v : Int} {n m : Nat} {a b : DFA} {p q : List Nat → Bool} (ha : HasL v n a p) (hb : HasL v m b q) (j k : DK) (hj : At w a j) (hk : At w b k) (hn : n * m ≤ 64) :
    PureT Tryd.prog 27 [dV a j, dV b k] w fun v N => v = .tuple #[.bool (decide ((opD xorB a b).next.length = 1) && !finN (opD xorB a b) 0), .int .i64 0] ∧ N = [] := by
  have b1 := min_bounds ha
  have b2 := min_bounds hb
  exact eqlOk w a b j k hj hk b1.1 b1.2.1 b1.2.2 b2.1 b2.2.1 b2.2.2 (ha.wrong hb) (ha.mulLe hb (by omega)) (ha.small hb (by omega))
end Go.Proofs.YtdaapdamcekkgaaDoor

namespace Go.Lx
open Go.RowKit Go.ChangeShapes Go.WideShapes Go.Deep
set_option linter.unusedVariables false
section
variable {H : Type} {enc : TypeId × Value → H} {P : Program}
theorem TrodAll_stays (hl : laidOutB P = true) {W W' : World} {sp' : Nat → Bool} : ∀ {ts : List TypeId} {vs : List Value} {ds : List (DataW H)} {ps : List MemPlace},
    (∀ t ∈ ts, P.readableRec t = true ∧ t < P.types.size) → DataW.TrodAll enc P W 0 (fun _ => true) true ts vs ds ps → (∀ p ∈ ps, W.sameAt W' p) → (∀ p ∈ ps, sp' p.block = true) → DataW.TrodAll enc P W' 0 sp' true ts vs ds ps
  | [], _, _, _, _, h, _, _ => by
    obtain ⟨rfl, rfl, rfl⟩ := trodAll_nil h
    rfl
  | t :: ts, _, _, _, hr, h, hs, hsp => by
    obtain ⟨v, vs1, d, ds1, p, q, rfl, rfl, rfl, h1, h2⟩ := trodAll_cons h
    have ht := hr t (by simp)
    exact ⟨p, q, WideElems.Trod_stays hl ht.1 ht.2 h1 (fun x hx => hs x (List.mem_append_left _ hx)) (fun x hx => hsp x (List.mem_append_left _ hx)),
      TrodAll_stays hl (fun t ht => hr t (by simp [ht])) h2 (fun x hx => hs x (List.mem_append_right _ hx)) (fun x hx => hsp x (List.mem_append_right _ hx)), rfl⟩
theorem post_law {f : Func} {s : ChangeSpec} {W W' : World} {args : Array Value} {ds gs : List (DataW H)} {before : List MemPlace} {tb : TypeId}
    (hl : laidOutB P = true) (hr : ∀ t ∈ f.params.toList, P.readableRec t = true ∧ t < P.types.size) (hres : f.resultTypes = #[tb]) (hb : P.underlying tb = some .bool) (hv : s.vars = [])
    (hW : DataW.Whole enc P f.params.toList s.vars false W args.toList ds gs before)
    (h1 : (s.fn H ds).results = [.lit (.bool true)]) (h2 : (s.fn H ds).args = ds) (h3 : (s.fn H ds).vars = [])
    (hB : Below W.heap.size W W') : s.post enc P f false true false false W args (.bool true) W' := by
  have hW0 := hW
  obtain ⟨p, q, hA, hV, rfl, hz, hn⟩ := hW
  rw [hv] at hV
  obtain ⟨rfl, rfl⟩ := trodVars_none hV
  simp only [List.append_nil] at hW0 hz hn
  have hlt := hW0.lt
  have hsame : ∀ x ∈ p, W.sameAt W' x := fun x hx => hB.same (hlt x hx)
  have hargs : ∀ sp : Nat → Bool, (∀ x ∈ p, sp x.block = true) → DataW.TrodAll enc P W' 0 sp true f.params.toList args.toList (s.fn H (ds ++ [])).args p := fun sp hsp => by
    rw [List.append_nil, h2]
    exact TrodAll_stays hl hr hA hsame hsp
  have hvars : ∀ sp : Nat → Bool, DataW.TrodVars enc P W' sp s.vars (s.fn H (ds ++ [])).vars [] := fun sp => by
    rw [List.append_nil, hv, h3]; rfl
  have hresult : ∀ (b : Nat) (sp : Nat → Bool) (hd : Bool), DataW.TrodAll enc P W' b sp hd f.resultTypes.toList ((Value.bool true).resultList f.resultTypes.size) (s.fn H (ds ++ [])).results [] := fun b sp hd => by
    rw [List.append_nil, h1, hres]
    exact trodAll_cons_mk (shut_bool hb _) trodAll_mk0
  have hold : ∀ x ∈ p, (fun b => decide (b < W.heap.size)) x.block = true := fun x hx => by simpa using hlt x hx
  refine ⟨ds, [], p, [], p, [], hW0, hresult _ _ _, hargs _ hold, hvars _, World.keptBut_mono (fun x hx => ⟨hx, ?_⟩) (hB.frame _), fun _ => ?_⟩
  · exact Or.inr (by simpa using hx)
  · refine ⟨ok_one hres rfl (okWide_bool_mk hb _), _, _, ([] ++ p) ++ [], ⟨[] ++ p, [], trodAll_append (hargs _ (fun _ _ => rfl)) (hresult _ _ _), hvars _, rfl, ?_, ?_⟩, ?_⟩
    · intro b off hx
      have hx' : MemPlace.cell b off ∈ p := by simpa using hx
      rw [hB.frozen (p := ⟨b, off, none⟩) (hlt _ hx')]
      exact hz b off hx'
    · intro ha; cases ha
    · intro x hx _
      simpa using hx
theorem spotNone {w : World} {a : Addr} {v : Value} (h : w.cell? a = some v) : a.spot = none := by
  unfold World.cell? at h
  cases e : a.spot with
  | none => rfl
  | some x => rw [e] at h; split at h <;> simp at h
theorem Sl.ofCells {w : World} {a : Addr} {cs : List Value} (h : ∀ i (hi : i < cs.length), w.cell? (a.add i) = some cs[i]) : Sl w (some a) cs := fun i hi => by
  have h0 := h 0 (by omega)
  have h1 := h i hi
  have h2 : a.spot = none := spotNone (a := a) (by simpa [Addr.add] using h0)
  refine ⟨a, rfl, h2, ?_⟩
  have e : a.add i = ⟨a.block, a.off + i, none⟩ := by
    unfold Addr.add
    split
    · rename_i h; subst h
      cases a with
      | mk b o s => simp at h2; subst h2; rfl
    · rfl
  rw [← e]; exact h1
structure DfaIn (P : Program) (W : World) (v : Value) (d : DFA) (nb fb : Option Addr) (nc fc : Nat) (vs : List Value) : Prop where
  val : v = .agg (dfaCells d nb nc fb fc).toArray
  at_ : DfaAt W d nb vs fb
  n : d.next.length ≤ reachBytes
  r : ∀ r ∈ d.next, r.length ≤ reachBytes
  f : d.final.length ≤ reachBytes
theorem weights_all (e : TypeId) : ∀ {l : List (DataW H)} {d : DataW H}, d ∈ l → ∀ m ∈ d.weights P e, m ∈ DataW.weightsAll P e l
  | [], _, h, _, _ => by cases h
  | x :: l, d, h, m, hm => by
    rw [DataW.weightsAll, List.mem_append]
    rcases List.mem_cons.1 h with rfl | h
    · exact .inl hm
    · exact .inr (weights_all e h m hm)
theorem slice_bound {t e : TypeId} {elems spare : List (DataW H)} (ht : P.underlying t = some (.slice e)) (he : 0 < P.bytesOf e) (h : ∀ m ∈ (DataW.slice elems spare).weights P t, m ≤ reachBytes) :
    elems.length ≤ reachBytes ∧ ∀ d ∈ elems, ∀ m ∈ d.weights P e, m ≤ reachBytes := by
  have hw : (DataW.slice elems spare).weights P t = (elems.length + spare.length) * P.bytesOf e :: (DataW.weightsAll P e elems ++ DataW.weightsAll P e spare) := by
    rw [DataW.weights, ht]
  rw [hw] at h
  refine ⟨?_, fun d hd m hm => h m (List.mem_cons_of_mem _ (List.mem_append_left _ (weights_all e hd m hm)))⟩
  have h1 := h _ List.mem_cons_self
  have h2 := Nat.mul_le_mul_left (elems.length + spare.length) (show 1 ≤ P.bytesOf e from he)
  omega
theorem intsOf {w : World} {A : Option Addr} {L C : Nat} {Z : List Int} (hL : L ≤ C) (hZ : Z.length = C) (h0 : A = none → C = 0) (h : ∀ a', A = some a' → 0 ≤ a'.block ∧ ∀ c, c < C → w.cell? (a'.add c) = some (.int .i64 (Z.getD c 0))) :
    (Z.take L).length = L ∧ Sl w A (ints (Z.take L)) := by
  have hl : (Z.take L).length = L := by rw [List.length_take]; omega
  refine ⟨hl, ?_⟩
  cases A with
  | none =>
    have := h0 rfl
    have : Z.take L = [] := List.eq_nil_of_length_eq_zero (by omega)
    rw [this]; exact Sl.nil _ _
  | some a =>
    refine Sl.ofCells fun i hi => ?_
    have hi' : i < L := by rw [List.length_map, hl] at hi; exact hi
    have hiz : i < Z.length := by omega
    rw [(h a rfl).2 i (by omega), List.getElem_map, List.getElem_take]
    simp [hiz]
theorem open_dfa {t ti tn tr tf tb : TypeId} {f0 f1 f2 f3 : Field} {W : World} {v : Value} {d : DataW H} {p : List MemPlace}
    (ht : P.underlying t = some (.struct #[f0, f1, f2, f3])) (hc : P.cellsOf t = 4) (h0 : f0.type = ti) (h1 : f1.type = ti) (h2 : f2.type = tn) (h3 : f3.type = tf) (o0 : f0.offset = 0) (o1 : f1.offset = 1) (o2 : f2.offset = 2) (o3 : f3.offset = 3)
    (hi : P.underlying ti = some (.int .i64)) (hn : P.underlying tn = some (.slice tr)) (hrow : P.underlying tr = some (.slice ti)) (hf : P.underlying tf = some (.slice tb)) (hb : P.underlying tb = some .bool)
    (ci : P.cellsOf ti = 1) (cn : P.cellsOf tn = 1) (cr : P.cellsOf tr = 1) (cf : P.cellsOf tf = 1) (cb : P.cellsOf tb = 1) (br : 0 < P.bytesOf tr) (bi : 0 < P.bytesOf ti) (bb : 0 < P.bytesOf tb) (hw : ∀ m ∈ d.weights P t, m ≤ reachBytes)
    (h : DataW.Trod enc P W 0 (fun _ => true) true t v d p) : ∃ D nb fb nc fc vs, DfaIn P W v D nb fb nc fc vs := by
  obtain ⟨fuel, hT⟩ := h
  obtain ⟨xs, n, rfl, hx, hlen, hxl, hfs⟩ := DataW.trod_struct ht hT
  rw [hc] at hlen
  obtain ⟨c0, c1, c2, c3, hcs⟩ : ∃ c0 c1 c2 c3, v.cells.toList = [c0, c1, c2, c3] := by
    match hh : v.cells.toList, hlen with
    | [a, b, c, e], _ => exact ⟨a, b, c, e, rfl⟩
  have hv : v = .agg #[c0, c1, c2, c3] := by
    have hsz : v.cells.size = 4 := by rw [← Array.length_toList, hcs]; rfl
    cases v with
    | agg cs =>
      have : cs.toList = [c0, c1, c2, c3] := hcs
      rw [← Array.toArray_toList (xs := cs), this]
    | _ => simp [Value.cells] at hsz
  rw [hcs] at hfs
  obtain ⟨x0, x1, x2, x3, rfl⟩ : ∃ a b c e, xs = [a, b, c, e] := by
    match xs, hxl with
    | [a, b, c, e], _ => exact ⟨a, b, c, e, rfl⟩
  have g0 := hfs 0 f0 rfl
  have g1 := hfs 1 f1 rfl
  have g2 := hfs 2 f2 rfl
  have g3 := hfs 3 f3 rfl
  rw [h0, o0, ci] at g0
  rw [h1, o1, ci] at g1
  rw [h2, o2, cn] at g2
  rw [h3, o3, cf] at g3
  have hd : d = .agg [x0.1, x1.1, x2.1, x3.1] := congrArg Prod.fst hx
  have hwe : d.weights P t = DataW.weightsEach P [ti, ti, tn, tf] [x0.1, x1.1, x2.1, x3.1] := by
    rw [hd, DataW.weights, ht]
    simp [h0, h1, h2, h3]
  rw [hwe] at hw
  have hw2 : ∀ m ∈ x2.1.weights P tn, m ≤ reachBytes := fun m hm => hw m (DataW.weights_mem_each (j := 2) rfl rfl m hm)
  have hw3 : ∀ m ∈ x3.1.weights P tf, m ≤ reachBytes := fun m hm => hw m (DataW.weights_mem_each (j := 3) rfl rfl m hm)
  obtain ⟨n0, e0, _, _⟩ := DataW.trod_int hi g0
  obtain ⟨n1, e1, _, _⟩ := DataW.trod_int hi g1
  have e0' : c0 = .int .i64 n0 := by simpa using e0
  have e1' : c1 = .int .i64 n1 := by simpa using e1
  subst e0' e1'
  obtain ⟨nb, nc, rows, vs, e2, hnl, hvl, hout, hrows⟩ : ∃ (nb : Option Addr) (nc : Nat) (rows : List (List Int)) (vs : List Value), c2 = .slice nb rows.length nc ∧ rows.length ≤ reachBytes ∧ (∀ r ∈ rows, r.length ≤ reachBytes) ∧ Sl W nb vs ∧ RowsR W vs rows := by
    rcases open_int_rows hn hrow hi cr ci g2 with ⟨hcs2, _⟩ | ⟨a, len, cap, A, L, C, Z, hcs2, _, hlc, hcm, hx2, hall⟩
    · exact ⟨none, 0, [], [], by simpa using hcs2, Nat.zero_le _, fun r hr => (List.not_mem_nil hr).elim, Sl.nil _ _, rfl, fun i r hr => by simp at hr⟩
    · rw [congrArg Prod.fst hx2] at hw2
      obtain ⟨hwl, hwr⟩ := slice_bound hn br hw2
      have hwl' : len ≤ reachBytes := by simpa using hwl
      have hwrow : ∀ r, r < len → L r ≤ reachBytes := fun r hr => by
        obtain ⟨_, a2, _, a4, _, a6, _⟩ := hall r (by omega)
        have hm := hwr _ (List.mem_map.2 ⟨r, List.mem_range.2 hr, rfl⟩)
        cases hA : A r with
        | none => have := a6 hA; omega
        | some b =>
          rw [hA] at hm
          have := (slice_bound hrow bi hm).1
          simp [lits] at this
          omega
      have hrl : ∀ r, r < len → ((Z r).take (L r)).length = L r ∧ Sl W (A r) (ints ((Z r).take (L r))) := fun r hr => by
        obtain ⟨_, a2, a3, a4, _, a6, a7⟩ := hall r (by omega)
        exact intsOf a2 a4 a6 a7
      refine ⟨some a, cap, (List.range len).map fun r => (Z r).take (L r), (List.range len).map fun r => .slice (A r) (L r) (C r), by simpa using hcs2, by simp; omega, ?_, ?_, by simp, ?_⟩
      · intro r hr
        obtain ⟨j, hj, rfl⟩ := List.mem_map.1 hr
        have hj' := List.mem_range.1 hj
        rw [(hrl j hj').1]; exact hwrow j hj'
      · refine Sl.ofCells fun i hi9 => ?_
        have hi' : i < len := by simpa using hi9
        rw [(hall i (by omega)).1]; simp
      · intro i r hr
        have hi' : i < len := by
          have := (List.getElem?_eq_some_iff.1 hr).1
          simpa using this
        have er : r = (Z i).take (L i) := by
          rw [List.getElem?_map, List.getElem?_range hi'] at hr
          exact (Option.some.inj hr).symm
        subst er
        refine ⟨A i, C i, ?_, (hrl i hi').2⟩
        rw [List.getElem?_map, List.getElem?_range hi', (hrl i hi').1]; rfl
  obtain ⟨fb, fc, fin, e3, hfl, hfin⟩ : ∃ (fb : Option Addr) (fc : Nat) (fin : List Bool), c3 = .slice fb fin.length fc ∧ fin.length ≤ reachBytes ∧ Sl W fb (bools fin) := by
    rcases open_bools hf hb cb g3 with ⟨hcs3, _⟩ | ⟨a, len, cap, B, hcs3, _, hlc, hcm, hx3, hall⟩
    · exact ⟨none, 0, [], by simpa using hcs3, Nat.zero_le _, Sl.nil _ _⟩
    · rw [congrArg Prod.fst hx3] at hw3
      have hwl := (slice_bound hf bb hw3).1
      have hwl' : len ≤ reachBytes := by simpa using hwl
      refine ⟨some a, cap, (List.range len).map B, by simpa using hcs3, by simp; omega, Sl.ofCells fun i hi9 => ?_⟩
      have hi' : i < len := by simpa using hi9
      rw [hall i (by omega)]; simp
  exact ⟨⟨n0, n1, rows, fin⟩, nb, fb, nc, fc, vs, by rw [hv, e2, e3], ⟨hout, hrows, hfin⟩, hnl, hvl, hfl⟩
theorem wf64 {n : Int} (h : (Lit.int .i64 n).wf = true) : -9223372036854775808 ≤ n ∧ n ≤ 9223372036854775807 := by
  simp only [Lit.wf, Bool.and_eq_true, decide_eq_true_eq] at h
  exact h
theorem wfU8 {n : Int} (h : (Lit.int .u8 n).wf = true) : 0 ≤ n ∧ n < 256 := by
  simp only [Lit.wf, Bool.and_eq_true, decide_eq_true_eq] at h
  have h1 : (0 : Int) ≤ n := h.1
  have h2 : n ≤ 255 := h.2
  omega
theorem open_word {t e : TypeId} {W : World} {r : Reach} {b0 : Nat} {v : Value} {d : DataW H} {p : List MemPlace} (ht : P.underlying t = some (.slice e)) (he : P.underlying e = some (.int .u8)) (ce : P.cellsOf e = 1) (be : 0 < P.bytesOf e)
    (hval : Value.okWide P W r b0 t v) (hw : ∀ m ∈ d.weights P t, m ≤ reachBytes) (h : DataW.Trod enc P W 0 (fun _ => true) true t v d p) :
    ∃ (l : List Nat) (b : Option Addr) (c : Nat), v = .slice b l.length c ∧ (Sl W b (byts l) ∧ ∀ x ∈ l, x < 256) ∧ l.length ≤ reachBytes := by
  obtain ⟨fuel, hT⟩ := h
  have hv : v.cells.toList = [v] := by
    unfold Value.okWide at hval
    rw [ht] at hval
    simp only at hval
    unfold Cell.okWide Cell.ok at hval
    rw [ht] at hval
    cases v <;> simp_all [Value.cells]
  rcases open_ints ht he ce hT with ⟨hcs, _⟩ | ⟨a, len, cap, zs, hcs, _, hl, _, hz, hx, hcell, hwz⟩
  · rw [hv] at hcs
    exact ⟨[], none, 0, by simpa using hcs, ⟨Sl.nil _ _, fun x hx => by cases hx⟩, Nat.zero_le _⟩
  · rw [hv] at hcs
    simp only [if_true] at hz
    have hd : d = _ := congrArg Prod.fst hx
    rw [hd] at hw
    have hb := (slice_bound ht be hw).1
    have hln : (zs.take len).length = len := by rw [List.length_take]; omega
    have hwt : ∀ z ∈ zs, 0 ≤ z ∧ z < 256 := fun z hz => wfU8 (hwz z hz)
    refine ⟨(zs.take len).map Int.toNat, some a, cap, ?_, ⟨?_, ?_⟩, ?_⟩
    · rw [List.length_map, hln]; simpa using hcs
    · refine Sl.ofCells fun i hi => ?_
      have hi' : i < len := by rw [List.length_map, List.length_map, hln] at hi; exact hi
      have hiz : i < zs.length := by omega
      have hz0 := (hwt _ (List.getElem_mem hiz)).1
      rw [hcell i hiz]
      simp [hiz, Int.toNat_of_nonneg hz0]
    · intro x hx
      obtain ⟨z, hz', rfl⟩ := List.mem_map.1 hx
      have := hwt z (List.mem_of_mem_take hz')
      omega
    · rw [List.length_map, hln]
      have : (lits (H := H) .u8 (zs.take len)).length = len := by simp [lits]; omega
      omega
theorem lt63 {n : Nat} (h : n ≤ reachBytes) : n < 9223372036854775807 := Nat.lt_of_le_of_lt h (by decide)
end
end Go.Lx

namespace Go.Proofs.YtdaapdamcekkgaaDoor
open Go.ChangeShapes Go.WideShapes Go.ChangeAt Go.RowKit Go.Lx
set_option maxRecDepth 100000
theorem own : ownKnob Tryd.prog.godebug = none := by kernel_rfl
theorem laidOut : laidOutB Tryd.prog = true := by kernel_rfl
theorem reads25 : Tryd.prog.readableRec 25 = true := by kernel_rfl
theorem reads3 : Tryd.prog.readableRec 3 = true := by kernel_rfl
theorem lt25 : 25 < Tryd.prog.types.size := of_decide_eq_true (by kernel_rfl)
theorem lt3 : 3 < Tryd.prog.types.size := of_decide_eq_true (by kernel_rfl)
theorem reads5 : Tryd.prog.readableRec 5 = true := by kernel_rfl
theorem reads42 : Tryd.prog.readableRec 35 = true := by kernel_rfl
theorem lt5 : 5 < Tryd.prog.types.size := of_decide_eq_true (by kernel_rfl)
theorem lt42 : 35 < Tryd.prog.types.size := of_decide_eq_true (by kernel_rfl)
theorem cells_u : Tryd.prog.cellsOf 5 = 1 := by kernel_rfl
theorem bytes_u : 0 < Tryd.prog.bytesOf 5 := of_decide_eq_true (by kernel_rfl)
theorem cells_a : Tryd.prog.cellsOf 25 = 4 := by kernel_rfl
theorem cells_b : Tryd.prog.cellsOf 3 = 1 := by kernel_rfl
theorem cells_c : Tryd.prog.cellsOf 22 = 1 := by kernel_rfl
theorem cells_d : Tryd.prog.cellsOf 52 = 1 := by kernel_rfl
theorem cells_e : Tryd.prog.cellsOf 23 = 1 := by kernel_rfl
theorem cells_f : Tryd.prog.cellsOf 4 = 1 := by kernel_rfl
theorem bytes_a : 0 < Tryd.prog.bytesOf 52 := of_decide_eq_true (by kernel_rfl)
theorem bytes_b : 0 < Tryd.prog.bytesOf 3 := of_decide_eq_true (by kernel_rfl)
theorem bytes_c : 0 < Tryd.prog.bytesOf 4 := of_decide_eq_true (by kernel_rfl)
theorem openD {H : Type} {enc : TypeId × Value → H} {W : World} {v : Value} {d : DataW H} {p : List MemPlace} (hw : ∀ m ∈ d.weights Tryd.prog 25, m ≤ reachBytes) (h : DataW.Trod enc Tryd.prog W 0 (fun _ => true) true 25 v d p) : ∃ D nb fb nc fc vs, DfaIn Tryd.prog W v D nb fb nc fc vs :=
  open_dfa Tryd.underlying25 cells_a rfl rfl rfl rfl rfl rfl rfl rfl Tryd.underlying3 Tryd.underlying22 Tryd.underlying52 Tryd.underlying23 Tryd.underlying4 cells_b cells_c cells_d cells_e cells_f bytes_a bytes_b bytes_c hw h
def fillO (cs : Array Value) : Obj → Obj
  | .cells _ t frozen => .cells cs t frozen
  | o => o
theorem openW {H : Type} {enc : TypeId × Value → H} {W : World} {r : Reach} {base : Nat} {v : Value} {d : DataW H} {p : List MemPlace} (hval : Value.okWide Tryd.prog W r base 35 v) (hw : ∀ m ∈ d.weights Tryd.prog 35, m ≤ reachBytes) (h : DataW.Trod enc Tryd.prog W 0 (fun _ => true) true 35 v d p) :
    ∃ (l : List Nat) (b : Option Addr) (c : Nat), v = .slice b l.length c ∧ (Sl W b (byts l) ∧ ∀ x ∈ l, x < 256) ∧ l.length ≤ reachBytes :=
  open_word Tryd.underlying35 Tryd.underlying5 cells_u bytes_u hval hw h
noncomputable def laidWorld (os : Os) : World :=
  { World.holding Tryd.prog os ⟨#[], #[], []⟩ with heap := ((((World.holding Tryd.prog os ⟨#[], #[], []⟩).heap.modify 0 (fillO #[.int .u64 1, .int .u64 10, .int .u64 100, .int .u64 1000, .int .u64 10000, .int .u64 100000, .int .u64 1000000, .int .u64 10000000, .int .u64 100000000, .int .u64 1000000000, .int .u64 10000000000, .int .u64 100000000000, .int .u64 1000000000000, .int .u64 10000000000000, .int .u64 100000000000000, .int .u64 1000000000000000, .int .u64 10000000000000000, .int .u64 100000000000000000, .int .u64 1000000000000000000, .int .u64 10000000000000000000])).modify 1 (fillO #[.int .u8 0, .int .u8 1, .int .u8 28, .int .u8 2, .int .u8 29, .int .u8 14, .int .u8 24, .int .u8 3, .int .u8 30, .int .u8 22, .int .u8 20, .int .u8 15, .int .u8 25, .int .u8 17, .int .u8 4, .int .u8 8, .int .u8 31, .int .u8 27, .int .u8 13, .int .u8 23, .int .u8 21, .int .u8 19, .int .u8 16, .int .u8 7, .int .u8 26, .int .u8 12, .int .u8 18, .int .u8 6, .int .u8 11, .int .u8 5, .int .u8 10, .int .u8 9])).modify 2 (fillO #[.int .u8 0, .int .u8 1, .int .u8 56, .int .u8 2, .int .u8 57, .int .u8 49, .int .u8 28, .int .u8 3, .int .u8 61, .int .u8 58, .int .u8 42, .int .u8 50, .int .u8 38, .int .u8 29, .int .u8 17, .int .u8 4, .int .u8 62, .int .u8 47, .int .u8 59, .int .u8 36, .int .u8 45, .int .u8 43, .int .u8 51, .int .u8 22, .int .u8 53, .int .u8 39, .int .u8 33, .int .u8 30, .int .u8 24, .int .u8 18, .int .u8 12, .int .u8 5, .int .u8 63, .int .u8 55, .int .u8 48, .int .u8 27, .int .u8 60, .int .u8 41, .int .u8 37, .int .u8 16, .int .u8 46, .int .u8 35, .int .u8 44, .int .u8 21, .int .u8 52, .int .u8 32, .int .u8 23, .int .u8 11, .int .u8 54, .int .u8 26, .int .u8 40, .int .u8 15, .int .u8 34, .int .u8 20, .int .u8 31, .int .u8 10, .int .u8 25, .int .u8 14, .int .u8 19, .int .u8 9, .int .u8 13, .int .u8 8, .int .u8 7, .int .u8 6])) }
end Go.Proofs.YtdaapdamcekkgaaDoor
