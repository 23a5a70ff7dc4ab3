/- Contracts of functions of the program (QcP): what each call answers and that it leaves memory as it was. Conditions: those each theorem names. -/
import Derived.Test.YtnpehjpookcfkaaDoorDR
import Derived.Test.YtnpehjpookcfkaaDoorEndC
import Derived.Test.YtnpehjpookcfkaaDoorC5
set_option linter.unusedSectionVars false
set_option linter.unusedSimpArgs false
set_option linter.unusedVariables false
set_option linter.unnecessarySimpa false
namespace Go.Proofs.YtnpehjpookcfkaaDoor
open Go.Lx Go.RowKit
set_option linter.unusedVariables false
set_option linter.unusedSimpArgs false
set_option maxHeartbeats 8000000 in
set_option maxRecDepth 20000 in
theorem composesW (w : World) [Tab Tryd.prog w] (d1 : DFA) (i1 : DK) (hd1 : At w d1 i1) (bd1 : BdA d1) (d2 : DFA) (i2 : DK) (hd2 : At w d2 i2) (bd2 : BdA d2) (a1 g1 : DFA) (j1 k1 : DK) (ha1 : At w a1 j1) (hg1 : At w g1 k1) (ba1 : BdA a1) (bg1 : BdA g1) (a2 g2 : DFA) (j2 k2 : DK) (ha2 : At w a2 j2) (hg2 : At w g2 k2) (ba2 : BdA a2) (bg2 : BdA g2) :
    PureT Tryd.prog 8 [.agg (dC d1 i1 ++ dC d2 i2).toArray, .agg (cC a1 g1 j1 k1 ++ cC a2 g2 j2 k2).toArray] w fun v N => v = .bool true ∧ N = [] := by
  refine CallT.enter Tryd.func8 rfl Tryd.ntmps8 rfl ?_
  obtain ⟨z, X, Y, A, G, B, H, P, Q, U, M, S, N, T9, V, W, px, py, p1, q1, p2, q2, pc, qc, m1, m2, mb, h⟩ := comp_x d1 d2 a1 g1 a2 g2
  refine T.seq (T.region ?_)
  refine TO.loud rfl (l_box (v := (cV d1 d2 i1 i2)) (cs := (cC d1 d2 i1 i2)) rfl rfl (fun z1 => ?_))
  refine TO.loud rfl (l_box (v := (.agg #[(.int .i64 a1.vars), (.int .i64 a1.start), (.slice j1.nb a1.next.length j1.nc), (.slice j1.fb a1.final.length j1.fc), (.int .i64 g1.vars), (.int .i64 g1.start), (.slice k1.nb g1.next.length k1.nc), (.slice k1.fb g1.final.length k1.fc), (.int .i64 a2.vars), (.int .i64 a2.start), (.slice j2.nb a2.next.length j2.nc), (.slice j2.fb a2.final.length j2.fc), (.int .i64 g2.vars), (.int .i64 g2.start), (.slice k2.nb g2.next.length k2.nc), (.slice k2.fb g2.final.length k2.fc)])) (cs := [(.int .i64 a1.vars), (.int .i64 a1.start), (.slice j1.nb a1.next.length j1.nc), (.slice j1.fb a1.final.length j1.fc), (.int .i64 g1.vars), (.int .i64 g1.start), (.slice k1.nb g1.next.length k1.nc), (.slice k1.fb g1.final.length k1.fc), (.int .i64 a2.vars), (.int .i64 a2.start), (.slice j2.nb a2.next.length j2.nc), (.slice j2.fb a2.final.length j2.fc), (.int .i64 g2.vars), (.int .i64 g2.start), (.slice k2.nb g2.next.length k2.nc), (.slice k2.fb g2.final.length k2.fc)]) rfl rfl (fun z2 => ?_))
  refine TO.quiet (q_assign rfl) ?_
  refine TO.nil (T.seq (T.seq (T.region ?_)))
  have hk26 := fun (w1 : World) (hI : Inv w [oI z2 28 [(.int .i64 a1.vars), (.int .i64 a1.start), (.slice j1.nb a1.next.length j1.nc), (.slice j1.fb a1.final.length j1.fc), (.int .i64 g1.vars), (.int .i64 g1.start), (.slice k1.nb g1.next.length k1.nc), (.slice k1.fb g1.final.length k1.fc), (.int .i64 a2.vars), (.int .i64 a2.start), (.slice j2.nb a2.next.length j2.nc), (.slice j2.fb a2.final.length j2.fc), (.int .i64 g2.vars), (.int .i64 g2.start), (.slice k2.nb g2.next.length k2.nc), (.slice k2.fb g2.final.length k2.fc)], oI z1 51 (cC d1 d2 i1 i2)] w1) => (haveI := Inv.tab (P := Tryd.prog) hI; awakeC w1)
  refine TO.loud rfl (l_call ent15 (CallT.of_pure hk26) rfl ?_)
  clear hk26
  rintro vr O' ⟨N, rfl, rfl, rfl⟩
  refine TO.quiet (q_not rfl) ?_
  refine TO.nil ?_
  refine T.cond0 rfl ?_
  refine T.skip ?_
  refine T.cut (fun ρ O => ∃ (b5 : Nat) (kX : DK) (b6 : Nat) (kY : DK) (b7 : Nat) (kA : DK) (kG : DK) (b8 : Nat) (kB : DK) (kH : DK), O = [oI b5 25 (dC X kX), oI b6 25 (dC Y kY), oI b7 27 (cC A G kA kG), oI b8 27 (cC B H kB kH), dI 54 4 3 X kX, dI 54 4 3 Y kY, dI 54 4 3 A kA, dI 54 4 3 G kG, dI 54 4 3 B kB, dI 54 4 3 H kH, oI z2 28 [(.int .i64 a1.vars), (.int .i64 a1.start), (.slice j1.nb a1.next.length j1.nc), (.slice j1.fb a1.final.length j1.fc), (.int .i64 g1.vars), (.int .i64 g1.start), (.slice k1.nb g1.next.length k1.nc), (.slice k1.fb g1.final.length k1.fc), (.int .i64 a2.vars), (.int .i64 a2.start), (.slice j2.nb a2.next.length j2.nc), (.slice j2.fb a2.final.length j2.fc), (.int .i64 g2.vars), (.int .i64 g2.start), (.slice k2.nb g2.next.length k2.nc), (.slice k2.fb g2.final.length k2.fc)], oI z1 51 (cC d1 d2 i1 i2)] ∧ Heads [(0, (cV d1 d2 i1 i2)), (1, (.agg #[(.int .i64 a1.vars), (.int .i64 a1.start), (.slice j1.nb a1.next.length j1.nc), (.slice j1.fb a1.final.length j1.fc), (.int .i64 g1.vars), (.int .i64 g1.start), (.slice k1.nb g1.next.length k1.nc), (.slice k1.fb g1.final.length k1.fc), (.int .i64 a2.vars), (.int .i64 a2.start), (.slice j2.nb a2.next.length j2.nc), (.slice j2.fb a2.final.length j2.fc), (.int .i64 g2.vars), (.int .i64 g2.start), (.slice k2.nb g2.next.length k2.nc), (.slice k2.fb g2.final.length k2.fc)])), (2, (.pointer (some ⟨z1, 0, none⟩))), (3, (.pointer (some ⟨z2, 0, none⟩))), (4, .bool false), (5, (.pointer (some ⟨b5, 0, none⟩))), (6, (.pointer (some ⟨b6, 0, none⟩))), (7, (.pointer (some ⟨b7, 0, none⟩))), (8, (.pointer (some ⟨b8, 0, none⟩)))] ρ) ?_ ?_
  · refine T.treeT [oI z2 28 [(.int .i64 a1.vars), (.int .i64 a1.start), (.slice j1.nb a1.next.length j1.nc), (.slice j1.fb a1.final.length j1.fc), (.int .i64 g1.vars), (.int .i64 g1.start), (.slice k1.nb g1.next.length k1.nc), (.slice k1.fb g1.final.length k1.fc), (.int .i64 a2.vars), (.int .i64 a2.start), (.slice j2.nb a2.next.length j2.nc), (.slice j2.fb a2.final.length j2.fc), (.int .i64 g2.vars), (.int .i64 g2.start), (.slice k2.nb g2.next.length k2.nc), (.slice k2.fb g2.final.length k2.fc)], oI z1 51 (cC d1 d2 i1 i2)] [16, 17, 18, 19] 20 mixed rfl (by exact Sub.rf) (fun _ _ _ h => h) ?_
    refine RO.quietTT 0 rfl (by kernel_rfl) (q_ixArr (i := 0) Tryd.underlying51 inf25 rfl rfl (by decide)) ?_
    refine RO.quietTT 1 rfl (by kernel_rfl) (q_load_part 1 (vs := (dC d1 i1)) Tryd.underlying25 rfl inf25 rfl rfl rfl rfl) ?_
    refine RO.quietTT 3 rfl (by kernel_rfl) (q_ixArr (i := 1) Tryd.underlying51 inf25 rfl rfl (by decide)) ?_
    refine RO.quietTT 4 rfl (by kernel_rfl) (q_load_part 1 (vs := (dC d2 i2)) Tryd.underlying25 rfl inf25 rfl rfl rfl rfl) ?_
    refine RO.quietTT 6 rfl (by kernel_rfl) (q_ixArr (i := 0) Tryd.underlying28 inf27 rfl rfl (by decide)) ?_
    refine RO.quietTT 7 rfl (by kernel_rfl) (q_load_part 0 (vs := (cC a1 g1 j1 k1)) Tryd.underlying27 rfl inf27 rfl rfl rfl (by kernel_rfl)) ?_
    refine RO.quietTT 9 rfl (by kernel_rfl) (q_ixArr (i := 1) Tryd.underlying28 inf27 rfl rfl (by decide)) ?_
    refine RO.quietTT 10 rfl (by kernel_rfl) (q_load_part 0 (vs := (cC a2 g2 j2 k2)) Tryd.underlying27 rfl inf27 rfl rfl rfl (by kernel_rfl)) ?_
    refine RO.makers (Wt := WtM) (fuel := 4) [⟨2, 30, fun x => (dV X x.k), fun x => [dI 54 4 3 X x.k]⟩, ⟨12, 5, fun x => (.pointer (some ⟨x.n, 0, none⟩)), fun x => [oI x.n 25 [(.int .i64 0), (.int .i64 0), (.slice none 0 0), (.slice none 0 0)]]⟩, ⟨5, 33, fun x => (dV Y x.k), fun x => [dI 54 4 3 Y x.k]⟩, ⟨13, 6, fun x => (.pointer (some ⟨x.n, 0, none⟩)), fun x => [oI x.n 25 [(.int .i64 0), (.int .i64 0), (.slice none 0 0), (.slice none 0 0)]]⟩, ⟨8, 36, fun x => (cV A G x.k x.k2), fun x => [dI 54 4 3 A x.k, dI 54 4 3 G x.k2]⟩, ⟨14, 7, fun x => (.pointer (some ⟨x.n, 0, none⟩)), fun x => [oI x.n 27 [(.int .i64 0), (.int .i64 0), (.slice none 0 0), (.slice none 0 0), (.int .i64 0), (.int .i64 0), (.slice none 0 0), (.slice none 0 0)]]⟩, ⟨11, 39, fun x => (cV B H x.k x.k2), fun x => [dI 54 4 3 B x.k, dI 54 4 3 H x.k2]⟩, ⟨15, 8, fun x => (.pointer (some ⟨x.n, 0, none⟩)), fun x => [oI x.n 27 [(.int .i64 0), (.int .i64 0), (.slice none 0 0), (.slice none 0 0), (.int .i64 0), (.int .i64 0), (.slice none 0 0), (.slice none 0 0)]]⟩] [(0, (cV d1 d2 i1 i2)), (1, (.agg #[(.int .i64 a1.vars), (.int .i64 a1.start), (.slice j1.nb a1.next.length j1.nc), (.slice j1.fb a1.final.length j1.fc), (.int .i64 g1.vars), (.int .i64 g1.start), (.slice k1.nb g1.next.length k1.nc), (.slice k1.fb g1.final.length k1.fc), (.int .i64 a2.vars), (.int .i64 a2.start), (.slice j2.nb a2.next.length j2.nc), (.slice j2.fb a2.final.length j2.fc), (.int .i64 g2.vars), (.int .i64 g2.start), (.slice k2.nb g2.next.length k2.nc), (.slice k2.fb g2.final.length k2.fc)])), (2, (.pointer (some ⟨z1, 0, none⟩))), (3, (.pointer (some ⟨z2, 0, none⟩))), (4, .bool false), (29, (dV d1 i1)), (32, (dV d2 i2)), (35, (cV a1 g1 j1 k1)), (38, (cV a2 g2 j2 k2))] (fun _ => WtM.z) (by kernel_rfl) (by exact Sub.rf) ?_ ?_ ⟨rfl, rfl, rfl, rfl, rfl, rfl, rfl, rfl, rfl, trivial⟩
    · intro q hq
      simp only [List.mem_cons, List.not_mem_nil, or_false] at hq
      rcases hq with rfl | rfl | rfl | rfl | rfl | rfl | rfl | rfl
      · refine ⟨_, rfl, rfl, fun ρ O hS hH => ?_⟩
        obtain ⟨ρ0, rfl⟩ := hH.elim
        clear hH
        have hk30 := fun (w1 : World) (hI : Inv w O w1) => (haveI := Inv.tab (P := Tryd.prog) hI; subE w1 d1 i1 (hI.atB hd1) bd1 4 (by decide) (by decide) h.eX)
        refine l_call ent9 (CallT.of_pure hk30) rfl ?_
        clear hk30
        rintro vr O' ⟨N, rfl, kX, rfl, rfl⟩
        exact ⟨{ WtM.z with k := kX }, rfl, rfl⟩
      · refine ⟨_, rfl, rfl, fun ρ O hS hH => ?_⟩
        obtain ⟨ρ0, rfl⟩ := hH.elim
        clear hH
        exact l_alloc inf25 rfl (fun b5 => ⟨{ WtM.z with n := b5 }, rfl, rfl⟩)
      · refine ⟨_, rfl, rfl, fun ρ O hS hH => ?_⟩
        obtain ⟨ρ0, rfl⟩ := hH.elim
        clear hH
        have hk33 := fun (w1 : World) (hI : Inv w O w1) => (haveI := Inv.tab (P := Tryd.prog) hI; subE w1 d2 i2 (hI.atB hd2) bd2 4 (by decide) (by decide) h.eY)
        refine l_call ent9 (CallT.of_pure hk33) rfl ?_
        clear hk33
        rintro vr O' ⟨N, rfl, kY, rfl, rfl⟩
        exact ⟨{ WtM.z with k := kY }, rfl, rfl⟩
      · refine ⟨_, rfl, rfl, fun ρ O hS hH => ?_⟩
        obtain ⟨ρ0, rfl⟩ := hH.elim
        clear hH
        exact l_alloc inf25 rfl (fun b6 => ⟨{ WtM.z with n := b6 }, rfl, rfl⟩)
      · refine ⟨_, rfl, rfl, fun ρ O hS hH => ?_⟩
        obtain ⟨ρ0, rfl⟩ := hH.elim
        clear hH
        have hk36 := fun (w1 : World) (hI : Inv w O w1) => (haveI := Inv.tab (P := Tryd.prog) hI; tameC w1 a1 g1 j1 k1 (hI.atB ha1) (hI.atB hg1) ba1 bg1 h.eA h.eG)
        refine l_call ent10 (CallT.of_pure hk36) rfl ?_
        clear hk36
        rintro vr O' ⟨N, rfl, kA, kG, rfl, rfl⟩
        exact ⟨{ WtM.z with k := kA, k2 := kG }, rfl, rfl⟩
      · refine ⟨_, rfl, rfl, fun ρ O hS hH => ?_⟩
        obtain ⟨ρ0, rfl⟩ := hH.elim
        clear hH
        exact l_alloc inf27 rfl (fun b7 => ⟨{ WtM.z with n := b7 }, rfl, rfl⟩)
      · refine ⟨_, rfl, rfl, fun ρ O hS hH => ?_⟩
        obtain ⟨ρ0, rfl⟩ := hH.elim
        clear hH
        have hk39 := fun (w1 : World) (hI : Inv w O w1) => (haveI := Inv.tab (P := Tryd.prog) hI; tameC w1 a2 g2 j2 k2 (hI.atB ha2) (hI.atB hg2) ba2 bg2 h.eB h.eH)
        refine l_call ent10 (CallT.of_pure hk39) rfl ?_
        clear hk39
        rintro vr O' ⟨N, rfl, kB, kH, rfl, rfl⟩
        exact ⟨{ WtM.z with k := kB, k2 := kH }, rfl, rfl⟩
      · refine ⟨_, rfl, rfl, fun ρ O hS hH => ?_⟩
        obtain ⟨ρ0, rfl⟩ := hH.elim
        clear hH
        exact l_alloc inf27 rfl (fun b8 => ⟨{ WtM.z with n := b8 }, rfl, rfl⟩)
    intro wm ρ hH
    obtain ⟨kX, e9kX⟩ : ∃ x, x = (wm 2).k := ⟨_, rfl⟩
    obtain ⟨b5, e9b5⟩ : ∃ x, x = (wm 12).n := ⟨_, rfl⟩
    obtain ⟨kY, e9kY⟩ : ∃ x, x = (wm 5).k := ⟨_, rfl⟩
    obtain ⟨b6, e9b6⟩ : ∃ x, x = (wm 13).n := ⟨_, rfl⟩
    obtain ⟨kA, e9kA⟩ : ∃ x, x = (wm 8).k := ⟨_, rfl⟩
    obtain ⟨kG, e9kG⟩ : ∃ x, x = (wm 8).k2 := ⟨_, rfl⟩
    obtain ⟨b7, e9b7⟩ : ∃ x, x = (wm 14).n := ⟨_, rfl⟩
    obtain ⟨kB, e9kB⟩ : ∃ x, x = (wm 11).k := ⟨_, rfl⟩
    obtain ⟨kH, e9kH⟩ : ∃ x, x = (wm 11).k2 := ⟨_, rfl⟩
    obtain ⟨b8, e9b8⟩ : ∃ x, x = (wm 15).n := ⟨_, rfl⟩
    have hH2 : Heads [(30, (dV X kX)), (5, (.pointer (some ⟨b5, 0, none⟩))), (33, (dV Y kY)), (6, (.pointer (some ⟨b6, 0, none⟩))), (36, (cV A G kA kG)), (7, (.pointer (some ⟨b7, 0, none⟩))), (39, (cV B H kB kH)), (8, (.pointer (some ⟨b8, 0, none⟩))), (0, (cV d1 d2 i1 i2)), (1, (.agg #[(.int .i64 a1.vars), (.int .i64 a1.start), (.slice j1.nb a1.next.length j1.nc), (.slice j1.fb a1.final.length j1.fc), (.int .i64 g1.vars), (.int .i64 g1.start), (.slice k1.nb g1.next.length k1.nc), (.slice k1.fb g1.final.length k1.fc), (.int .i64 a2.vars), (.int .i64 a2.start), (.slice j2.nb a2.next.length j2.nc), (.slice j2.fb a2.final.length j2.fc), (.int .i64 g2.vars), (.int .i64 g2.start), (.slice k2.nb g2.next.length k2.nc), (.slice k2.fb g2.final.length k2.fc)])), (2, (.pointer (some ⟨z1, 0, none⟩))), (3, (.pointer (some ⟨z2, 0, none⟩))), (4, .bool false), (29, (dV d1 i1)), (32, (dV d2 i2)), (35, (cV a1 g1 j1 k1)), (38, (cV a2 g2 j2 k2))] ρ := by subst e9kX e9b5 e9kY e9b6 e9kA e9kG e9b7 e9kB e9kH e9b8; exact hH
    refine RO.sub (O' := [dI 54 4 3 X kX, oI b5 25 [(.int .i64 0), (.int .i64 0), (.slice none 0 0), (.slice none 0 0)], dI 54 4 3 Y kY, oI b6 25 [(.int .i64 0), (.int .i64 0), (.slice none 0 0), (.slice none 0 0)], dI 54 4 3 A kA, dI 54 4 3 G kG, oI b7 27 [(.int .i64 0), (.int .i64 0), (.slice none 0 0), (.slice none 0 0), (.int .i64 0), (.int .i64 0), (.slice none 0 0), (.slice none 0 0)], dI 54 4 3 B kB, dI 54 4 3 H kH, oI b8 27 [(.int .i64 0), (.int .i64 0), (.slice none 0 0), (.slice none 0 0), (.int .i64 0), (.int .i64 0), (.slice none 0 0), (.slice none 0 0)], oI z2 28 [(.int .i64 a1.vars), (.int .i64 a1.start), (.slice j1.nb a1.next.length j1.nc), (.slice j1.fb a1.final.length j1.fc), (.int .i64 g1.vars), (.int .i64 g1.start), (.slice k1.nb g1.next.length k1.nc), (.slice k1.fb g1.final.length k1.fc), (.int .i64 a2.vars), (.int .i64 a2.start), (.slice j2.nb a2.next.length j2.nc), (.slice j2.fb a2.final.length j2.fc), (.int .i64 g2.vars), (.int .i64 g2.start), (.slice k2.nb g2.next.length k2.nc), (.slice k2.fb g2.final.length k2.fc)], oI z1 51 (cC d1 d2 i1 i2)]) (by subst e9kX e9b5 e9kY e9b6 e9kA e9kG e9b7 e9kB e9kH e9b8; exact Sub.rf) ?_
    clear hH e9kX e9b5 e9kY e9b6 e9kA e9kG e9b7 e9kB e9kH e9b8
    obtain ⟨ρ0, rfl⟩ := hH2.elim
    clear hH2
    refine RO.forkT [16] (by kernel_rfl) rfl ⟨⟨_, rfl, rfl, l_store_box (v := (dV X kX)) (vs := (dC X kX)) 1 inf25 rfl rfl rfl rfl rfl rfl (by simp [putL]) ⟨.inl (by decide), ?_⟩⟩, trivial⟩ (by kernel_rfl)
    refine RO.sub (O' := [dI 54 4 3 X kX, oI b5 25 (dC X kX), dI 54 4 3 Y kY, oI b6 25 [(.int .i64 0), (.int .i64 0), (.slice none 0 0), (.slice none 0 0)], dI 54 4 3 A kA, dI 54 4 3 G kG, oI b7 27 [(.int .i64 0), (.int .i64 0), (.slice none 0 0), (.slice none 0 0), (.int .i64 0), (.int .i64 0), (.slice none 0 0), (.slice none 0 0)], dI 54 4 3 B kB, dI 54 4 3 H kH, oI b8 27 [(.int .i64 0), (.int .i64 0), (.slice none 0 0), (.slice none 0 0), (.int .i64 0), (.int .i64 0), (.slice none 0 0), (.slice none 0 0)], oI z2 28 [(.int .i64 a1.vars), (.int .i64 a1.start), (.slice j1.nb a1.next.length j1.nc), (.slice j1.fb a1.final.length j1.fc), (.int .i64 g1.vars), (.int .i64 g1.start), (.slice k1.nb g1.next.length k1.nc), (.slice k1.fb g1.final.length k1.fc), (.int .i64 a2.vars), (.int .i64 a2.start), (.slice j2.nb a2.next.length j2.nc), (.slice j2.fb a2.final.length j2.fc), (.int .i64 g2.vars), (.int .i64 g2.start), (.slice k2.nb g2.next.length k2.nc), (.slice k2.fb g2.final.length k2.fc)], oI z1 51 (cC d1 d2 i1 i2)]) (by exact Sub.rf) ?_
    refine RO.forkT [17] (by kernel_rfl) rfl ⟨⟨_, rfl, rfl, l_store_box (v := (dV Y kY)) (vs := (dC Y kY)) 3 inf25 rfl rfl rfl rfl rfl rfl (by simp [putL]) ⟨.inl (by decide), ?_⟩⟩, trivial⟩ (by kernel_rfl)
    refine RO.sub (O' := [dI 54 4 3 X kX, oI b5 25 (dC X kX), dI 54 4 3 Y kY, oI b6 25 (dC Y kY), dI 54 4 3 A kA, dI 54 4 3 G kG, oI b7 27 [(.int .i64 0), (.int .i64 0), (.slice none 0 0), (.slice none 0 0), (.int .i64 0), (.int .i64 0), (.slice none 0 0), (.slice none 0 0)], dI 54 4 3 B kB, dI 54 4 3 H kH, oI b8 27 [(.int .i64 0), (.int .i64 0), (.slice none 0 0), (.slice none 0 0), (.int .i64 0), (.int .i64 0), (.slice none 0 0), (.slice none 0 0)], oI z2 28 [(.int .i64 a1.vars), (.int .i64 a1.start), (.slice j1.nb a1.next.length j1.nc), (.slice j1.fb a1.final.length j1.fc), (.int .i64 g1.vars), (.int .i64 g1.start), (.slice k1.nb g1.next.length k1.nc), (.slice k1.fb g1.final.length k1.fc), (.int .i64 a2.vars), (.int .i64 a2.start), (.slice j2.nb a2.next.length j2.nc), (.slice j2.fb a2.final.length j2.fc), (.int .i64 g2.vars), (.int .i64 g2.start), (.slice k2.nb g2.next.length k2.nc), (.slice k2.fb g2.final.length k2.fc)], oI z1 51 (cC d1 d2 i1 i2)]) (by exact Sub.rf) ?_
    refine RO.forkT [18] (by kernel_rfl) rfl ⟨⟨_, rfl, rfl, l_store_box (v := (cV A G kA kG)) (vs := (cC A G kA kG)) 6 inf27 rfl rfl rfl rfl rfl rfl (by simp [putL]) ⟨.inl (by decide), ?_⟩⟩, trivial⟩ (by kernel_rfl)
    refine RO.sub (O' := [dI 54 4 3 X kX, oI b5 25 (dC X kX), dI 54 4 3 Y kY, oI b6 25 (dC Y kY), dI 54 4 3 A kA, dI 54 4 3 G kG, oI b7 27 (cC A G kA kG), dI 54 4 3 B kB, dI 54 4 3 H kH, oI b8 27 [(.int .i64 0), (.int .i64 0), (.slice none 0 0), (.slice none 0 0), (.int .i64 0), (.int .i64 0), (.slice none 0 0), (.slice none 0 0)], oI z2 28 [(.int .i64 a1.vars), (.int .i64 a1.start), (.slice j1.nb a1.next.length j1.nc), (.slice j1.fb a1.final.length j1.fc), (.int .i64 g1.vars), (.int .i64 g1.start), (.slice k1.nb g1.next.length k1.nc), (.slice k1.fb g1.final.length k1.fc), (.int .i64 a2.vars), (.int .i64 a2.start), (.slice j2.nb a2.next.length j2.nc), (.slice j2.fb a2.final.length j2.fc), (.int .i64 g2.vars), (.int .i64 g2.start), (.slice k2.nb g2.next.length k2.nc), (.slice k2.fb g2.final.length k2.fc)], oI z1 51 (cC d1 d2 i1 i2)]) (by exact Sub.rf) ?_
    refine RO.forkT [19] (by kernel_rfl) rfl ⟨⟨_, rfl, rfl, l_store_box (v := (cV B H kB kH)) (vs := (cC B H kB kH)) 9 inf27 rfl rfl rfl rfl rfl rfl (by simp [putL]) ⟨.inl (by decide), ?_⟩⟩, trivial⟩ (by kernel_rfl)
    refine RO.sub (O' := [dI 54 4 3 X kX, oI b5 25 (dC X kX), dI 54 4 3 Y kY, oI b6 25 (dC Y kY), dI 54 4 3 A kA, dI 54 4 3 G kG, oI b7 27 (cC A G kA kG), dI 54 4 3 B kB, dI 54 4 3 H kH, oI b8 27 (cC B H kB kH), oI z2 28 [(.int .i64 a1.vars), (.int .i64 a1.start), (.slice j1.nb a1.next.length j1.nc), (.slice j1.fb a1.final.length j1.fc), (.int .i64 g1.vars), (.int .i64 g1.start), (.slice k1.nb g1.next.length k1.nc), (.slice k1.fb g1.final.length k1.fc), (.int .i64 a2.vars), (.int .i64 a2.start), (.slice j2.nb a2.next.length j2.nc), (.slice j2.fb a2.final.length j2.fc), (.int .i64 g2.vars), (.int .i64 g2.start), (.slice k2.nb g2.next.length k2.nc), (.slice k2.fb g2.final.length k2.fc)], oI z1 51 (cC d1 d2 i1 i2)]) (by exact Sub.rf) ?_
    exact RO.fin (by kernel_rfl) ⟨b5, kX, b6, kY, b7, kA, kG, b8, kB, kH, rfl, ⟨rfl, rfl, rfl, rfl, rfl, rfl, rfl, rfl, rfl, trivial⟩⟩ (Sub.pick [1, 2, 4, 6, 0, 0, 0, 0, 0, 0, 0, 0] rfl)
  rintro ρ O ⟨b5, kX, b6, kY, b7, kA, kG, b8, kB, kH, rfl, hH⟩
  obtain ⟨ρ0, rfl⟩ := hH.elim
  clear hH
  refine T.seq (T.region ?_)
  refine TO.quiet (q_load_boxAgg 2 Tryd.underlying27 rfl inf27 rfl rfl rfl) (TO.quiet (q_load_boxAgg 3 Tryd.underlying27 rfl inf27 rfl rfl rfl) ?_)
  have hk43 := fun (w1 : World) (hI : Inv w [oI b5 25 (dC X kX), oI b6 25 (dC Y kY), oI b7 27 (cC A G kA kG), oI b8 27 (cC B H kB kH), dI 54 4 3 X kX, dI 54 4 3 Y kY, dI 54 4 3 A kA, dI 54 4 3 G kG, dI 54 4 3 B kB, dI 54 4 3 H kH, oI z2 28 [(.int .i64 a1.vars), (.int .i64 a1.start), (.slice j1.nb a1.next.length j1.nc), (.slice j1.fb a1.final.length j1.fc), (.int .i64 g1.vars), (.int .i64 g1.start), (.slice k1.nb g1.next.length k1.nc), (.slice k1.fb g1.final.length k1.fc), (.int .i64 a2.vars), (.int .i64 a2.start), (.slice j2.nb a2.next.length j2.nc), (.slice j2.fb a2.final.length j2.fc), (.int .i64 g2.vars), (.int .i64 g2.start), (.slice k2.nb g2.next.length k2.nc), (.slice k2.fb g2.final.length k2.fc)], oI z1 51 (cC d1 d2 i1 i2)] w1) => (haveI := Inv.tab (P := Tryd.prog) hI; compX w1 h.hz h.a h.g h.b h.h kA kG kB kH (hI.at (k := kA) (List.mem_of_getElem? (i := 6) rfl)) (hI.at (k := kG) (List.mem_of_getElem? (i := 7) rfl)) (hI.at (k := kB) (List.mem_of_getElem? (i := 8) rfl)) (hI.at (k := kH) (List.mem_of_getElem? (i := 9) rfl)) h.eP h.eQ)
  refine TO.loud rfl (l_call ent16 (CallT.of_pure hk43) rfl ?_)
  clear hk43
  rintro vr O' ⟨N, rfl, kP, kQ, rfl, rfl⟩
  refine TO.quiet (q_move rfl) (TO.quiet (q_extract (vs := _) rfl rfl) (TO.quiet (q_extract (vs := _) rfl rfl) ?_))
  refine TO.loud rfl (l_alloc inf27 rfl (fun z3 => ?_))
  refine TO.loud rfl (l_store_box (v := (cV P Q kP kQ)) (vs := (cC P Q kP kQ)) 0 inf27 rfl rfl rfl rfl rfl rfl (by simp [putL]) ?_)
  refine TO.quiet (q_assign rfl) ?_
  refine TO.nil (T.seq (T.region ?_))
  refine TO.quiet (q_load_boxAgg 3 Tryd.underlying25 rfl inf25 rfl rfl rfl) (TO.quiet (q_load_boxAgg 4 Tryd.underlying25 rfl inf25 rfl rfl rfl) ?_)
  have hk49 := fun (w1 : World) (hI : Inv w [oI z3 27 (cC P Q kP kQ), dI 54 4 3 P kP, dI 54 4 3 Q kQ, oI b5 25 (dC X kX), oI b6 25 (dC Y kY), oI b7 27 (cC A G kA kG), oI b8 27 (cC B H kB kH), dI 54 4 3 X kX, dI 54 4 3 Y kY, dI 54 4 3 A kA, dI 54 4 3 G kG, dI 54 4 3 B kB, dI 54 4 3 H kH, oI z2 28 [(.int .i64 a1.vars), (.int .i64 a1.start), (.slice j1.nb a1.next.length j1.nc), (.slice j1.fb a1.final.length j1.fc), (.int .i64 g1.vars), (.int .i64 g1.start), (.slice k1.nb g1.next.length k1.nc), (.slice k1.fb g1.final.length k1.fc), (.int .i64 a2.vars), (.int .i64 a2.start), (.slice j2.nb a2.next.length j2.nc), (.slice j2.fb a2.final.length j2.fc), (.int .i64 g2.vars), (.int .i64 g2.start), (.slice k2.nb g2.next.length k2.nc), (.slice k2.fb g2.final.length k2.fc)], oI z1 51 (cC d1 d2 i1 i2)] w1) => (haveI := Inv.tab (P := Tryd.prog) hI; andZ w1 h.hz h.x h.y kX kY (hI.at (k := kX) (List.mem_of_getElem? (i := 7) rfl)) (hI.at (k := kY) (List.mem_of_getElem? (i := 8) rfl)) h.eU)
  refine TO.loud rfl (l_call ent25 (CallT.of_pure hk49) rfl ?_)
  clear hk49
  rintro vr O' ⟨N, rfl, kU, rfl, rfl⟩
  refine TO.quiet (q_move rfl) (TO.quiet (q_extract (vs := _) rfl rfl) (TO.quiet (q_extract (vs := _) rfl rfl) ?_))
  refine TO.loud rfl (l_alloc inf25 rfl (fun z4 => ?_))
  refine TO.loud rfl (l_store_box (v := (dV U kU)) (vs := (dC U kU)) 0 inf25 rfl rfl rfl rfl rfl rfl (by simp [putL]) ?_)
  refine TO.quiet (q_assign rfl) ?_
  refine TO.sub (O' := [oI z4 25 (dC U kU), dI 54 4 3 U kU, oI z3 27 (cC P Q kP kQ), dI 54 4 3 P kP, dI 54 4 3 Q kQ, oI b5 25 (dC X kX), oI b6 25 (dC Y kY), oI b7 27 (cC A G kA kG), oI b8 27 (cC B H kB kH), dI 54 4 3 X kX, dI 54 4 3 Y kY, dI 54 4 3 A kA, dI 54 4 3 G kG, dI 54 4 3 B kB, dI 54 4 3 H kH]) (by exact Sub.k (.k (.k (.k (.k (.k (.k (.k (.k (.k (.k (.k (.k (.k (.k .z))))))))))))))) ?_
  refine TO.nil ?_
  refine T.reset [oI z4 25 (dC U kU), dI 54 4 3 U kU, oI z3 27 (cC P Q kP kQ), dI 54 4 3 P kP, dI 54 4 3 Q kQ, oI b5 25 (dC X kX), oI b6 25 (dC Y kY), oI b7 27 (cC A G kA kG), oI b8 27 (cC B H kB kH), dI 54 4 3 X kX, dI 54 4 3 Y kY, dI 54 4 3 A kA, dI 54 4 3 G kG, dI 54 4 3 B kB, dI 54 4 3 H kH] [(0, (cV d1 d2 i1 i2)), (1, (.agg #[(.int .i64 a1.vars), (.int .i64 a1.start), (.slice j1.nb a1.next.length j1.nc), (.slice j1.fb a1.final.length j1.fc), (.int .i64 g1.vars), (.int .i64 g1.start), (.slice k1.nb g1.next.length k1.nc), (.slice k1.fb g1.final.length k1.fc), (.int .i64 a2.vars), (.int .i64 a2.start), (.slice j2.nb a2.next.length j2.nc), (.slice j2.fb a2.final.length j2.fc), (.int .i64 g2.vars), (.int .i64 g2.start), (.slice k2.nb g2.next.length k2.nc), (.slice k2.fb g2.final.length k2.fc)])), (2, (.pointer (some ⟨z1, 0, none⟩))), (3, (.pointer (some ⟨z2, 0, none⟩))), (4, .bool false), (5, (.pointer (some ⟨b5, 0, none⟩))), (6, (.pointer (some ⟨b6, 0, none⟩))), (7, (.pointer (some ⟨b7, 0, none⟩))), (8, (.pointer (some ⟨b8, 0, none⟩))), (9, (.pointer (some ⟨z3, 0, none⟩))), (10, .int .i64 0), (11, (.pointer (some ⟨z4, 0, none⟩))), (12, .int .i64 0)] rfl ⟨rfl, rfl, rfl, rfl, rfl, rfl, rfl, rfl, rfl, rfl, rfl, rfl, rfl, trivial⟩ (fun ρ0 => ?_)
  refine T.seq (T.seq (T.region ?_))
  refine TO.quiet (q_move rfl) (TO.quiet (QT.toB (q_neq rfl rfl) (decide_eq_false (fun h => h rfl))) (TO.quiet (q_move rfl) ?_))
  refine TO.guarded rfl rfl rfl (LT.of_quiet rfl rfl (q_move rfl) ?_)
  refine TO.guarded rfl rfl rfl (LT.of_quiet rfl rfl (QT.toB (q_neq rfl rfl) (decide_eq_false (fun h => h rfl))) ?_)
  refine TO.quiet (q_pick0 rfl rfl) ?_
  refine TO.nil ?_
  refine T.cond0 rfl ?_
  refine T.skip ?_
  refine T.cut (fun ρ O => Sub [oI z3 27 (cC P Q kP kQ), dI 54 4 3 P kP, dI 54 4 3 Q kQ, oI b7 27 (cC A G kA kG), oI b8 27 (cC B H kB kH), dI 54 4 3 A kA, dI 54 4 3 G kG, dI 54 4 3 B kB, dI 54 4 3 H kH] O ∧ Heads [(0, (cV d1 d2 i1 i2)), (1, (.agg #[(.int .i64 a1.vars), (.int .i64 a1.start), (.slice j1.nb a1.next.length j1.nc), (.slice j1.fb a1.final.length j1.fc), (.int .i64 g1.vars), (.int .i64 g1.start), (.slice k1.nb g1.next.length k1.nc), (.slice k1.fb g1.final.length k1.fc), (.int .i64 a2.vars), (.int .i64 a2.start), (.slice j2.nb a2.next.length j2.nc), (.slice j2.fb a2.final.length j2.fc), (.int .i64 g2.vars), (.int .i64 g2.start), (.slice k2.nb g2.next.length k2.nc), (.slice k2.fb g2.final.length k2.fc)])), (2, (.pointer (some ⟨z1, 0, none⟩))), (3, (.pointer (some ⟨z2, 0, none⟩))), (5, (.pointer (some ⟨b5, 0, none⟩))), (6, (.pointer (some ⟨b6, 0, none⟩))), (7, (.pointer (some ⟨b7, 0, none⟩))), (8, (.pointer (some ⟨b8, 0, none⟩))), (9, (.pointer (some ⟨z3, 0, none⟩))), (10, .int .i64 0), (11, (.pointer (some ⟨z4, 0, none⟩))), (12, .int .i64 0)] ρ) ?_ ?_
  · refine T.seq ?_
    refine T.region ?_
    refine TO.quiet (q_load_boxAgg 5 Tryd.underlying25 rfl inf25 rfl rfl rfl) (TO.quiet (q_load_boxAgg 7 Tryd.underlying27 rfl inf27 rfl rfl rfl) ?_)
    have hk60 := fun (w1 : World) (hI : Inv w [oI z4 25 (dC U kU), dI 54 4 3 U kU, oI z3 27 (cC P Q kP kQ), dI 54 4 3 P kP, dI 54 4 3 Q kQ, oI b5 25 (dC X kX), oI b6 25 (dC Y kY), oI b7 27 (cC A G kA kG), oI b8 27 (cC B H kB kH), dI 54 4 3 X kX, dI 54 4 3 Y kY, dI 54 4 3 A kA, dI 54 4 3 G kG, dI 54 4 3 B kB, dI 54 4 3 H kH] w1) => (haveI := Inv.tab (P := Tryd.prog) hI; implZ w1 h.hz h.x h.a h.g kX kA kG (hI.at (k := kX) (List.mem_of_getElem? (i := 9) rfl)) (hI.at (k := kA) (List.mem_of_getElem? (i := 11) rfl)) (hI.at (k := kG) (List.mem_of_getElem? (i := 12) rfl)) h.e1)
    refine TO.loud rfl (l_call ent22 (CallT.of_pure hk60) rfl ?_)
    clear hk60
    rintro vr O' ⟨N, rfl, rfl, rfl⟩
    by_cases hs61 : m1 = true
    · refine TO.quiet (QT.toB (q_move rfl) (hs61)) ?_
      refine TO.guarded rfl rfl rfl (LT.of_quiet rfl rfl (q_load_boxAgg 6 Tryd.underlying25 rfl inf25 rfl rfl rfl) ?_)
      refine TO.guarded rfl rfl rfl (LT.of_quiet rfl rfl (q_load_boxAgg 8 Tryd.underlying27 rfl inf27 rfl rfl rfl) ?_)
      have hk64 := fun (w1 : World) (hI : Inv w [oI z4 25 (dC U kU), dI 54 4 3 U kU, oI z3 27 (cC P Q kP kQ), dI 54 4 3 P kP, dI 54 4 3 Q kQ, oI b5 25 (dC X kX), oI b6 25 (dC Y kY), oI b7 27 (cC A G kA kG), oI b8 27 (cC B H kB kH), dI 54 4 3 X kX, dI 54 4 3 Y kY, dI 54 4 3 A kA, dI 54 4 3 G kG, dI 54 4 3 B kB, dI 54 4 3 H kH] w1) => (haveI := Inv.tab (P := Tryd.prog) hI; implZ w1 h.hz h.y h.b h.h kY kB kH (hI.at (k := kY) (List.mem_of_getElem? (i := 10) rfl)) (hI.at (k := kB) (List.mem_of_getElem? (i := 13) rfl)) (hI.at (k := kH) (List.mem_of_getElem? (i := 14) rfl)) h.e2)
      refine TO.guarded rfl rfl rfl (l_call ent22 (CallT.of_pure hk64) rfl ?_)
      clear hk64
      rintro vr O' ⟨N, rfl, rfl, rfl⟩
      refine TO.quiet (q_pick1 rfl rfl) ?_
      by_cases hs66 : m2 = true
      · refine TO.quiet (QT.toB (q_move rfl) (hs66)) ?_
        refine TO.guarded rfl rfl rfl (LT.of_quiet rfl rfl (q_load_boxAgg 0 Tryd.underlying25 rfl inf25 rfl rfl rfl) ?_)
        refine TO.guarded rfl rfl rfl (LT.of_quiet rfl rfl (q_load_boxAgg 2 Tryd.underlying27 rfl inf27 rfl rfl rfl) ?_)
        have hk69 := fun (w1 : World) (hI : Inv w [oI z4 25 (dC U kU), dI 54 4 3 U kU, oI z3 27 (cC P Q kP kQ), dI 54 4 3 P kP, dI 54 4 3 Q kQ, oI b5 25 (dC X kX), oI b6 25 (dC Y kY), oI b7 27 (cC A G kA kG), oI b8 27 (cC B H kB kH), dI 54 4 3 X kX, dI 54 4 3 Y kY, dI 54 4 3 A kA, dI 54 4 3 G kG, dI 54 4 3 B kB, dI 54 4 3 H kH] w1) => (haveI := Inv.tab (P := Tryd.prog) hI; implZ w1 h.hz h.u h.p h.q kU kP kQ (hI.at (k := kU) (List.mem_of_getElem? (i := 1) rfl)) (hI.at (k := kP) (List.mem_of_getElem? (i := 3) rfl)) (hI.at (k := kQ) (List.mem_of_getElem? (i := 4) rfl)) h.eb)
        refine TO.guarded rfl rfl rfl (l_call ent22 (CallT.of_pure hk69) rfl ?_)
        clear hk69
        rintro vr O' ⟨N, rfl, rfl, rfl⟩
        refine TO.guarded rfl rfl rfl (LT.of_quiet rfl rfl (q_not rfl) ?_)
        refine TO.quiet (q_pick1 rfl rfl) ?_
        refine TO.nil ?_
        refine T.cond rfl (fun hc => ?_) (fun hc => ?_)
        · exact absurd hc (by have h1 := h.f1; simp_all)
        refine T.skip ?_
        exact ⟨(by exact Sub.d (.d (.k (.k (.k (.d (.d (.k (.k (.d (.d (.k (.k (.k (.k .z))))))))))))))), ⟨rfl, rfl, rfl, rfl, rfl, rfl, rfl, rfl, rfl, rfl, rfl, rfl, trivial⟩⟩
      refine TO.quiet (QT.toB (q_move rfl) (Bool.eq_false_iff.2 hs66)) ?_
      refine TO.passed rfl rfl ?_
      refine TO.passed rfl rfl ?_
      refine TO.passed rfl rfl ?_
      refine TO.passed rfl rfl ?_
      refine TO.quiet (q_pick0 rfl rfl) ?_
      refine TO.nil ?_
      refine T.cond0 rfl ?_
      refine T.skip ?_
      exact ⟨(by exact Sub.d (.d (.k (.k (.k (.d (.d (.k (.k (.d (.d (.k (.k (.k (.k .z))))))))))))))), ⟨rfl, rfl, rfl, rfl, rfl, rfl, rfl, rfl, rfl, rfl, rfl, rfl, trivial⟩⟩
    refine TO.quiet (QT.toB (q_move rfl) (Bool.eq_false_iff.2 hs61)) ?_
    refine TO.passed rfl rfl ?_
    refine TO.passed rfl rfl ?_
    refine TO.passed rfl rfl ?_
    refine TO.quiet (q_pick0 rfl rfl) (TO.quiet (q_move rfl) ?_)
    refine TO.passed rfl rfl ?_
    refine TO.passed rfl rfl ?_
    refine TO.passed rfl rfl ?_
    refine TO.passed rfl rfl ?_
    refine TO.quiet (q_pick0 rfl rfl) ?_
    refine TO.nil ?_
    refine T.cond0 rfl ?_
    refine T.skip ?_
    exact ⟨(by exact Sub.d (.d (.k (.k (.k (.d (.d (.k (.k (.d (.d (.k (.k (.k (.k .z))))))))))))))), ⟨rfl, rfl, rfl, rfl, rfl, rfl, rfl, rfl, rfl, rfl, rfl, rfl, trivial⟩⟩
  rintro ρ O ⟨hS, hH⟩
  obtain ⟨ρ0, rfl⟩ := hH.elim
  clear hH
  refine T.sub hS ?_
  refine T.seq (T.region ?_)
  refine TO.quiet (q_load_boxAgg 3 Tryd.underlying27 rfl inf27 rfl rfl rfl) ?_
  have hk74 := fun (w1 : World) (hI : Inv w [oI z3 27 (cC P Q kP kQ), dI 54 4 3 P kP, dI 54 4 3 Q kQ, oI b7 27 (cC A G kA kG), oI b8 27 (cC B H kB kH), dI 54 4 3 A kA, dI 54 4 3 G kG, dI 54 4 3 B kB, dI 54 4 3 H kH] w1) => (haveI := Inv.tab (P := Tryd.prog) hI; satX w1 h.hz h.a h.g kA kG (hI.at (k := kA) (List.mem_of_getElem? (i := 5) rfl)) (hI.at (k := kG) (List.mem_of_getElem? (i := 6) rfl)) h.eM h.eS)
  refine TO.loud rfl (l_call ent23 (CallT.of_pure hk74) rfl ?_)
  clear hk74
  rintro vr O' ⟨N, rfl, kM, kS, rfl, rfl⟩
  refine TO.quiet (q_move rfl) (TO.quiet (q_extract (vs := _) rfl rfl) (TO.quiet (q_extract (vs := _) rfl rfl) ?_))
  refine TO.loud rfl (l_alloc inf27 rfl (fun z5 => ?_))
  refine TO.loud rfl (l_store_box (v := (cV M S kM kS)) (vs := (cC M S kM kS)) 0 inf27 rfl rfl rfl rfl rfl rfl (by simp [putL]) ?_)
  refine TO.quiet (q_assign rfl) ?_
  refine TO.nil (T.seq (T.region ?_))
  refine TO.quiet (q_load_boxAgg 7 Tryd.underlying27 rfl inf27 rfl rfl rfl) ?_
  have hk79 := fun (w1 : World) (hI : Inv w [oI z5 27 (cC M S kM kS), dI 54 4 3 M kM, dI 54 4 3 S kS, oI z3 27 (cC P Q kP kQ), dI 54 4 3 P kP, dI 54 4 3 Q kQ, oI b7 27 (cC A G kA kG), oI b8 27 (cC B H kB kH), dI 54 4 3 A kA, dI 54 4 3 G kG, dI 54 4 3 B kB, dI 54 4 3 H kH] w1) => (haveI := Inv.tab (P := Tryd.prog) hI; satX w1 h.hz h.b h.h kB kH (hI.at (k := kB) (List.mem_of_getElem? (i := 10) rfl)) (hI.at (k := kH) (List.mem_of_getElem? (i := 11) rfl)) h.eN h.eT)
  refine TO.loud rfl (l_call ent23 (CallT.of_pure hk79) rfl ?_)
  clear hk79
  rintro vr O' ⟨N, rfl, kN, kT, rfl, rfl⟩
  refine TO.quiet (q_move rfl) (TO.quiet (q_extract (vs := _) rfl rfl) (TO.quiet (q_extract (vs := _) rfl rfl) ?_))
  refine TO.loud rfl (l_alloc inf27 rfl (fun z6 => ?_))
  refine TO.loud rfl (l_store_box (v := (cV N T9 kN kT)) (vs := (cC N T9 kN kT)) 0 inf27 rfl rfl rfl rfl rfl rfl (by simp [putL]) ?_)
  refine TO.quiet (q_assign rfl) ?_
  refine TO.nil ?_
  refine T.reset [oI z6 27 (cC N T9 kN kT), dI 54 4 3 N kN, dI 54 4 3 T9 kT, oI z5 27 (cC M S kM kS), dI 54 4 3 M kM, dI 54 4 3 S kS, oI z3 27 (cC P Q kP kQ), dI 54 4 3 P kP, dI 54 4 3 Q kQ, oI b7 27 (cC A G kA kG), oI b8 27 (cC B H kB kH), dI 54 4 3 A kA, dI 54 4 3 G kG, dI 54 4 3 B kB, dI 54 4 3 H kH] [(0, (cV d1 d2 i1 i2)), (1, (.agg #[(.int .i64 a1.vars), (.int .i64 a1.start), (.slice j1.nb a1.next.length j1.nc), (.slice j1.fb a1.final.length j1.fc), (.int .i64 g1.vars), (.int .i64 g1.start), (.slice k1.nb g1.next.length k1.nc), (.slice k1.fb g1.final.length k1.fc), (.int .i64 a2.vars), (.int .i64 a2.start), (.slice j2.nb a2.next.length j2.nc), (.slice j2.fb a2.final.length j2.fc), (.int .i64 g2.vars), (.int .i64 g2.start), (.slice k2.nb g2.next.length k2.nc), (.slice k2.fb g2.final.length k2.fc)])), (2, (.pointer (some ⟨z1, 0, none⟩))), (3, (.pointer (some ⟨z2, 0, none⟩))), (5, (.pointer (some ⟨b5, 0, none⟩))), (6, (.pointer (some ⟨b6, 0, none⟩))), (7, (.pointer (some ⟨b7, 0, none⟩))), (8, (.pointer (some ⟨b8, 0, none⟩))), (9, (.pointer (some ⟨z3, 0, none⟩))), (10, .int .i64 0), (11, (.pointer (some ⟨z4, 0, none⟩))), (12, .int .i64 0), (13, (.pointer (some ⟨z5, 0, none⟩))), (14, .int .i64 0), (15, (.pointer (some ⟨z6, 0, none⟩))), (16, .int .i64 0)] rfl ⟨rfl, rfl, rfl, rfl, rfl, rfl, rfl, rfl, rfl, rfl, rfl, rfl, rfl, rfl, rfl, rfl, trivial⟩ (fun ρ0 => ?_)
  refine T.seq (T.region ?_)
  refine TO.quiet (q_fieldAddr Tryd.underlying27 rfl inf25 rfl rfl) (TO.quiet (q_load_part 3 (vs := (dC S kS)) Tryd.underlying25 rfl inf25 rfl rfl rfl rfl) (TO.quiet (q_fieldAddr Tryd.underlying27 rfl inf25 rfl rfl) (TO.quiet (q_load_part 0 (vs := (dC T9 kT)) Tryd.underlying25 rfl inf25 rfl rfl rfl rfl) ?_)))
  have hk87 := fun (w1 : World) (hI : Inv w [oI z6 27 (cC N T9 kN kT), dI 54 4 3 N kN, dI 54 4 3 T9 kT, oI z5 27 (cC M S kM kS), dI 54 4 3 M kM, dI 54 4 3 S kS, oI z3 27 (cC P Q kP kQ), dI 54 4 3 P kP, dI 54 4 3 Q kQ, oI b7 27 (cC A G kA kG), oI b8 27 (cC B H kB kH), dI 54 4 3 A kA, dI 54 4 3 G kG, dI 54 4 3 B kB, dI 54 4 3 H kH] w1) => (haveI := Inv.tab (P := Tryd.prog) hI; andZ w1 h.hz h.s h.t kS kT (hI.at (k := kS) (List.mem_of_getElem? (i := 5) rfl)) (hI.at (k := kT) (List.mem_of_getElem? (i := 2) rfl)) h.eV)
  refine TO.loud rfl (l_call ent25 (CallT.of_pure hk87) rfl ?_)
  clear hk87
  rintro vr O' ⟨N, rfl, kV, rfl, rfl⟩
  refine TO.quiet (q_move rfl) (TO.quiet (q_extract (vs := _) rfl rfl) (TO.quiet (q_extract (vs := _) rfl rfl) ?_))
  refine TO.loud rfl (l_alloc inf25 rfl (fun z7 => ?_))
  refine TO.loud rfl (l_store_box (v := (dV V kV)) (vs := (dC V kV)) 0 inf25 rfl rfl rfl rfl rfl rfl (by simp [putL]) ?_)
  refine TO.quiet (q_assign rfl) ?_
  refine TO.nil (T.seq (T.region ?_))
  refine TO.quiet (q_load_boxAgg 0 Tryd.underlying25 rfl inf25 rfl rfl rfl) (TO.quiet (q_fieldAddr Tryd.underlying27 rfl inf25 rfl rfl) (TO.quiet (q_load_part 8 (vs := (dC P kP)) Tryd.underlying25 rfl inf25 rfl rfl rfl rfl) ?_))
  have hk94 := fun (w1 : World) (hI : Inv w [oI z7 25 (dC V kV), dI 54 4 3 V kV, oI z6 27 (cC N T9 kN kT), dI 54 4 3 N kN, dI 54 4 3 T9 kT, oI z5 27 (cC M S kM kS), dI 54 4 3 M kM, dI 54 4 3 S kS, oI z3 27 (cC P Q kP kQ), dI 54 4 3 P kP, dI 54 4 3 Q kQ, oI b7 27 (cC A G kA kG), oI b8 27 (cC B H kB kH), dI 54 4 3 A kA, dI 54 4 3 G kG, dI 54 4 3 B kB, dI 54 4 3 H kH] w1) => (haveI := Inv.tab (P := Tryd.prog) hI; andZ w1 h.hz h.v h.p kV kP (hI.at (k := kV) (List.mem_of_getElem? (i := 1) rfl)) (hI.at (k := kP) (List.mem_of_getElem? (i := 9) rfl)) h.eW)
  refine TO.loud rfl (l_call ent25 (CallT.of_pure hk94) rfl ?_)
  clear hk94
  rintro vr O' ⟨N, rfl, kW, rfl, rfl⟩
  refine TO.quiet (q_move rfl) (TO.quiet (q_extract (vs := _) rfl rfl) (TO.quiet (q_extract (vs := _) rfl rfl) ?_))
  refine TO.loud rfl (l_store_box (v := (dV W kW)) (vs := (dC W kW)) 1 inf25 rfl rfl rfl rfl rfl rfl (by simp [putL]) ?_)
  refine TO.quiet (q_assign rfl) ?_
  refine TO.nil ?_
  refine T.reset [dI 54 4 3 W kW, oI z7 25 (dC W kW), dI 54 4 3 V kV, oI z6 27 (cC N T9 kN kT), dI 54 4 3 N kN, dI 54 4 3 T9 kT, oI z5 27 (cC M S kM kS), dI 54 4 3 M kM, dI 54 4 3 S kS, oI z3 27 (cC P Q kP kQ), dI 54 4 3 P kP, dI 54 4 3 Q kQ, oI b7 27 (cC A G kA kG), oI b8 27 (cC B H kB kH), dI 54 4 3 A kA, dI 54 4 3 G kG, dI 54 4 3 B kB, dI 54 4 3 H kH] [(0, (cV d1 d2 i1 i2)), (1, (.agg #[(.int .i64 a1.vars), (.int .i64 a1.start), (.slice j1.nb a1.next.length j1.nc), (.slice j1.fb a1.final.length j1.fc), (.int .i64 g1.vars), (.int .i64 g1.start), (.slice k1.nb g1.next.length k1.nc), (.slice k1.fb g1.final.length k1.fc), (.int .i64 a2.vars), (.int .i64 a2.start), (.slice j2.nb a2.next.length j2.nc), (.slice j2.fb a2.final.length j2.fc), (.int .i64 g2.vars), (.int .i64 g2.start), (.slice k2.nb g2.next.length k2.nc), (.slice k2.fb g2.final.length k2.fc)])), (2, (.pointer (some ⟨z1, 0, none⟩))), (3, (.pointer (some ⟨z2, 0, none⟩))), (5, (.pointer (some ⟨b5, 0, none⟩))), (6, (.pointer (some ⟨b6, 0, none⟩))), (7, (.pointer (some ⟨b7, 0, none⟩))), (8, (.pointer (some ⟨b8, 0, none⟩))), (9, (.pointer (some ⟨z3, 0, none⟩))), (10, .int .i64 0), (11, (.pointer (some ⟨z4, 0, none⟩))), (12, .int .i64 0), (13, (.pointer (some ⟨z5, 0, none⟩))), (14, .int .i64 0), (15, (.pointer (some ⟨z6, 0, none⟩))), (16, .int .i64 0), (17, (.pointer (some ⟨z7, 0, none⟩))), (18, .int .i64 0), (19, .int .i64 0)] rfl ⟨rfl, rfl, rfl, rfl, rfl, rfl, rfl, rfl, rfl, rfl, rfl, rfl, rfl, rfl, rfl, rfl, rfl, rfl, rfl, trivial⟩ (fun ρ0 => ?_)
  refine T.seq (T.region ?_)
  refine TO.quiet (q_load_boxAgg 1 Tryd.underlying25 rfl inf25 rfl rfl rfl) (TO.quiet (q_fieldAddr Tryd.underlying27 rfl inf25 rfl rfl) (TO.quiet (q_load_part 12 (vs := (dC A kA)) Tryd.underlying25 rfl inf25 rfl rfl rfl rfl) ?_))
  have hk101 := fun (w1 : World) (hI : Inv w [dI 54 4 3 W kW, oI z7 25 (dC W kW), dI 54 4 3 V kV, oI z6 27 (cC N T9 kN kT), dI 54 4 3 N kN, dI 54 4 3 T9 kT, oI z5 27 (cC M S kM kS), dI 54 4 3 M kM, dI 54 4 3 S kS, oI z3 27 (cC P Q kP kQ), dI 54 4 3 P kP, dI 54 4 3 Q kQ, oI b7 27 (cC A G kA kG), oI b8 27 (cC B H kB kH), dI 54 4 3 A kA, dI 54 4 3 G kG, dI 54 4 3 B kB, dI 54 4 3 H kH] w1) => (haveI := Inv.tab (P := Tryd.prog) hI; inclR w1 h.hz h.zl h.w h.a kW kA (hI.at (k := kW) (List.mem_of_getElem? (i := 0) rfl)) (hI.at (k := kA) (List.mem_of_getElem? (i := 14) rfl)) h.i1)
  refine TO.loud rfl (l_call ent24 (CallT.of_pure hk101) rfl ?_)
  clear hk101
  rintro vr O' ⟨N, rfl, res1, wb1, wc1, hL1, he1, rfl, rfl⟩
  refine TO.quiet (q_move rfl) (TO.quiet (q_extract (vs := _) rfl rfl) (TO.quiet (q_extract (vs := _) rfl rfl) (TO.quiet (q_extract (vs := _) rfl rfl) ?_)))
  refine TO.quiet (q_assign rfl) (TO.quiet (q_assign rfl) (TO.quiet (q_assign rfl) ?_))
  refine TO.nil (T.seq (T.region ?_))
  refine TO.quiet (q_load_boxAgg 2 Tryd.underlying25 rfl inf25 rfl rfl rfl) (TO.quiet (q_fieldAddr Tryd.underlying27 rfl inf25 rfl rfl) (TO.quiet (q_load_part 14 (vs := (dC B kB)) Tryd.underlying25 rfl inf25 rfl rfl rfl rfl) ?_))
  have hk109 := fun (w1 : World) (hI : Inv w [rowI wb1 wc1 5 1 (byts (res1.getD [])), dI 54 4 3 W kW, oI z7 25 (dC W kW), dI 54 4 3 V kV, oI z6 27 (cC N T9 kN kT), dI 54 4 3 N kN, dI 54 4 3 T9 kT, oI z5 27 (cC M S kM kS), dI 54 4 3 M kM, dI 54 4 3 S kS, oI z3 27 (cC P Q kP kQ), dI 54 4 3 P kP, dI 54 4 3 Q kQ, oI b7 27 (cC A G kA kG), oI b8 27 (cC B H kB kH), dI 54 4 3 A kA, dI 54 4 3 G kG, dI 54 4 3 B kB, dI 54 4 3 H kH] w1) => (haveI := Inv.tab (P := Tryd.prog) hI; inclR w1 h.hz h.zl h.w h.b kW kB (hI.at (k := kW) (List.mem_of_getElem? (i := 1) rfl)) (hI.at (k := kB) (List.mem_of_getElem? (i := 17) rfl)) h.i2)
  refine TO.loud rfl (l_call ent24 (CallT.of_pure hk109) rfl ?_)
  clear hk109
  rintro vr O' ⟨N, rfl, res2, wb2, wc2, hL2, he2, rfl, rfl⟩
  refine TO.quiet (q_move rfl) (TO.quiet (q_extract (vs := _) rfl rfl) (TO.quiet (q_extract (vs := _) rfl rfl) (TO.quiet (q_extract (vs := _) rfl rfl) ?_)))
  refine TO.quiet (q_assign rfl) (TO.quiet (q_assign rfl) (TO.quiet (q_assign rfl) ?_))
  refine TO.nil ?_
  refine T.reset [rowI wb2 wc2 5 1 (byts (res2.getD [])), rowI wb1 wc1 5 1 (byts (res1.getD [])), dI 54 4 3 W kW, oI z7 25 (dC W kW), dI 54 4 3 V kV, oI z6 27 (cC N T9 kN kT), dI 54 4 3 N kN, dI 54 4 3 T9 kT, oI z5 27 (cC M S kM kS), dI 54 4 3 M kM, dI 54 4 3 S kS, oI z3 27 (cC P Q kP kQ), dI 54 4 3 P kP, dI 54 4 3 Q kQ, oI b7 27 (cC A G kA kG), oI b8 27 (cC B H kB kH), dI 54 4 3 A kA, dI 54 4 3 G kG, dI 54 4 3 B kB, dI 54 4 3 H kH] [(0, (cV d1 d2 i1 i2)), (1, (.agg #[(.int .i64 a1.vars), (.int .i64 a1.start), (.slice j1.nb a1.next.length j1.nc), (.slice j1.fb a1.final.length j1.fc), (.int .i64 g1.vars), (.int .i64 g1.start), (.slice k1.nb g1.next.length k1.nc), (.slice k1.fb g1.final.length k1.fc), (.int .i64 a2.vars), (.int .i64 a2.start), (.slice j2.nb a2.next.length j2.nc), (.slice j2.fb a2.final.length j2.fc), (.int .i64 g2.vars), (.int .i64 g2.start), (.slice k2.nb g2.next.length k2.nc), (.slice k2.fb g2.final.length k2.fc)])), (2, (.pointer (some ⟨z1, 0, none⟩))), (3, (.pointer (some ⟨z2, 0, none⟩))), (5, (.pointer (some ⟨b5, 0, none⟩))), (6, (.pointer (some ⟨b6, 0, none⟩))), (7, (.pointer (some ⟨b7, 0, none⟩))), (8, (.pointer (some ⟨b8, 0, none⟩))), (9, (.pointer (some ⟨z3, 0, none⟩))), (10, .int .i64 0), (11, (.pointer (some ⟨z4, 0, none⟩))), (12, .int .i64 0), (13, (.pointer (some ⟨z5, 0, none⟩))), (14, .int .i64 0), (15, (.pointer (some ⟨z6, 0, none⟩))), (16, .int .i64 0), (17, (.pointer (some ⟨z7, 0, none⟩))), (18, .int .i64 0), (19, .int .i64 0), (21, .bool true), (22, .int .i64 0), (24, .bool true), (25, .int .i64 0)] rfl ⟨rfl, rfl, rfl, rfl, rfl, rfl, rfl, rfl, rfl, rfl, rfl, rfl, rfl, rfl, rfl, rfl, rfl, rfl, rfl, rfl, rfl, rfl, rfl, trivial⟩ (fun ρ0 => ?_)
  refine T.seq (T.region ?_)
  refine TO.quiet (q_move rfl) (TO.quiet (QT.toB (q_eql rfl rfl) (decide_eq_true rfl)) (TO.quiet (q_move rfl) ?_))
  refine TO.guarded rfl rfl rfl (LT.of_quiet rfl rfl (q_move rfl) ?_)
  refine TO.guarded rfl rfl rfl (LT.of_quiet rfl rfl (QT.toB (q_eql rfl rfl) (decide_eq_true rfl)) ?_)
  refine TO.quiet (q_pick1 rfl rfl) (TO.quiet (q_move rfl) ?_)
  refine TO.guarded rfl rfl rfl (LT.of_quiet rfl rfl (q_move rfl) ?_)
  refine TO.guarded rfl rfl rfl (LT.of_quiet rfl rfl (QT.toB (q_eql rfl rfl) (decide_eq_true rfl)) ?_)
  refine TO.quiet (q_pick1 rfl rfl) (TO.quiet (q_move rfl) ?_)
  refine TO.guarded rfl rfl rfl (LT.of_quiet rfl rfl (q_move rfl) ?_)
  refine TO.guarded rfl rfl rfl (LT.of_quiet rfl rfl (QT.toB (q_eql rfl rfl) (decide_eq_true rfl)) ?_)
  refine TO.quiet (q_pick1 rfl rfl) (TO.quiet (q_move rfl) ?_)
  refine TO.guarded rfl rfl rfl (LT.of_quiet rfl rfl (q_move rfl) ?_)
  refine TO.guarded rfl rfl rfl (LT.of_quiet rfl rfl (QT.toB (q_eql rfl rfl) (decide_eq_true rfl)) ?_)
  refine TO.quiet (q_pick1 rfl rfl) (TO.quiet (q_move rfl) ?_)
  refine TO.guarded rfl rfl rfl (LT.of_quiet rfl rfl (q_move rfl) ?_)
  refine TO.guarded rfl rfl rfl (LT.of_quiet rfl rfl (QT.toB (q_eql rfl rfl) (decide_eq_true rfl)) ?_)
  refine TO.quiet (q_pick1 rfl rfl) (TO.quiet (q_move rfl) ?_)
  refine TO.guarded rfl rfl rfl (LT.of_quiet rfl rfl (q_move rfl) ?_)
  refine TO.quiet (q_pick1 rfl rfl) (TO.quiet (q_move rfl) ?_)
  refine TO.guarded rfl rfl rfl (LT.of_quiet rfl rfl (q_move rfl) ?_)
  refine TO.quiet (q_pick1 rfl rfl) (TO.quiet (q_move rfl) ?_)
  refine TO.guarded rfl rfl rfl (LT.of_quiet rfl rfl (q_fieldAddr Tryd.underlying27 rfl inf25 rfl rfl) ?_)
  refine TO.guarded rfl rfl rfl (LT.of_quiet rfl rfl (q_load_part 8 (vs := (dC S kS)) Tryd.underlying25 rfl inf25 rfl rfl rfl rfl) ?_)
  refine TO.guarded rfl rfl rfl (LT.of_quiet rfl rfl (q_load_boxAgg 14 Tryd.underlying27 rfl inf27 rfl rfl rfl) ?_)
  have hk145 := fun (w1 : World) (hI : Inv w [rowI wb2 wc2 5 1 (byts (res2.getD [])), rowI wb1 wc1 5 1 (byts (res1.getD [])), dI 54 4 3 W kW, oI z7 25 (dC W kW), dI 54 4 3 V kV, oI z6 27 (cC N T9 kN kT), dI 54 4 3 N kN, dI 54 4 3 T9 kT, oI z5 27 (cC M S kM kS), dI 54 4 3 M kM, dI 54 4 3 S kS, oI z3 27 (cC P Q kP kQ), dI 54 4 3 P kP, dI 54 4 3 Q kQ, oI b7 27 (cC A G kA kG), oI b8 27 (cC B H kB kH), dI 54 4 3 A kA, dI 54 4 3 G kG, dI 54 4 3 B kB, dI 54 4 3 H kH] w1) => (haveI := Inv.tab (P := Tryd.prog) hI; implZ w1 h.hz h.s h.a h.g kS kA kG (hI.at (k := kS) (List.mem_of_getElem? (i := 10) rfl)) (hI.at (k := kA) (List.mem_of_getElem? (i := 16) rfl)) (hI.at (k := kG) (List.mem_of_getElem? (i := 17) rfl)) h.s1)
  refine TO.guarded rfl rfl rfl (l_call ent22 (CallT.of_pure hk145) rfl ?_)
  clear hk145
  rintro vr O' ⟨N, rfl, rfl, rfl⟩
  refine TO.quiet (q_pick1 rfl rfl) (TO.quiet (q_move rfl) ?_)
  refine TO.guarded rfl rfl rfl (LT.of_quiet rfl rfl (q_fieldAddr Tryd.underlying27 rfl inf25 rfl rfl) ?_)
  refine TO.guarded rfl rfl rfl (LT.of_quiet rfl rfl (q_load_part 5 (vs := (dC T9 kT)) Tryd.underlying25 rfl inf25 rfl rfl rfl rfl) ?_)
  refine TO.guarded rfl rfl rfl (LT.of_quiet rfl rfl (q_load_boxAgg 15 Tryd.underlying27 rfl inf27 rfl rfl rfl) ?_)
  have hk151 := fun (w1 : World) (hI : Inv w [rowI wb2 wc2 5 1 (byts (res2.getD [])), rowI wb1 wc1 5 1 (byts (res1.getD [])), dI 54 4 3 W kW, oI z7 25 (dC W kW), dI 54 4 3 V kV, oI z6 27 (cC N T9 kN kT), dI 54 4 3 N kN, dI 54 4 3 T9 kT, oI z5 27 (cC M S kM kS), dI 54 4 3 M kM, dI 54 4 3 S kS, oI z3 27 (cC P Q kP kQ), dI 54 4 3 P kP, dI 54 4 3 Q kQ, oI b7 27 (cC A G kA kG), oI b8 27 (cC B H kB kH), dI 54 4 3 A kA, dI 54 4 3 G kG, dI 54 4 3 B kB, dI 54 4 3 H kH] w1) => (haveI := Inv.tab (P := Tryd.prog) hI; implZ w1 h.hz h.t h.b h.h kT kB kH (hI.at (k := kT) (List.mem_of_getElem? (i := 7) rfl)) (hI.at (k := kB) (List.mem_of_getElem? (i := 18) rfl)) (hI.at (k := kH) (List.mem_of_getElem? (i := 19) rfl)) h.s2)
  refine TO.guarded rfl rfl rfl (l_call ent22 (CallT.of_pure hk151) rfl ?_)
  clear hk151
  rintro vr O' ⟨N, rfl, rfl, rfl⟩
  refine TO.quiet (q_pick1 rfl rfl) (TO.quiet (q_assign rfl) ?_)
  refine TO.nil (T.ret (Res.drop ?_))
  refine Res.one (.bool true) Tryd.results8 rfl ?_
  exact ⟨[], Sub.z, rfl, rfl⟩
end Go.Proofs.YtnpehjpookcfkaaDoor
