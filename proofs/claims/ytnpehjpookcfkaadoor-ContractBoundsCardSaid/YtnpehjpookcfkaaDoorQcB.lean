/- Contracts of functions of the program (QcB): what each call answers and that it leaves memory as it was. Conditions: those each theorem names. -/
import Derived.Test.YtnpehjpookcfkaaDoorCoreM
import Derived.Test.YtnpehjpookcfkaaDoorCt
import Derived.Test.YtnpehjpookcfkaaDoorEndC
set_option linter.unusedSectionVars false
set_option linter.unusedSimpArgs false
set_option linter.unusedVariables false
set_option linter.unnecessarySimpa false
namespace Go.Proofs.YtnpehjpookcfkaaDoor
open Go.Lx Go.RowKit
set_option linter.unusedVariables false
set_option linter.unusedSimpArgs false
set_option maxHeartbeats 8000000 in
set_option maxRecDepth 20000 in
theorem boundsW (w : World) [Tab Tryd.prog w] (d : DFA) (jd : DK) (hd : At w d jd) (bd : BdA d) (a1 g1 : DFA) (j1 k1 : DK) (ha1 : At w a1 j1) (hg1 : At w g1 k1) (ba1 : BdA a1) (bg1 : BdA g1) (a2 g2 : DFA) (j2 k2 : DK) (ha2 : At w a2 j2) (hg2 : At w g2 k2) (ba2 : BdA a2) (bg2 : BdA g2) (a3 g3 : DFA) (j3 k3 : DK) (ha3 : At w a3 j3) (hg3 : At w g3 k3) (ba3 : BdA a3) (bg3 : BdA g3) :
    PureT Tryd.prog 5 [dV d jd, .agg (cC a1 g1 j1 k1 ++ (cC a2 g2 j2 k2 ++ cC a3 g3 j3 k3)).toArray] w fun v N => v = .bool true ∧ N = [] := by
  refine CallT.enter Tryd.func5 rfl Tryd.ntmps5 rfl ?_
  obtain ⟨z, X, A, G, B, H, C, K, M, N, J, L, px, p1, q1, p2, q2, p3, q3, pm, qm, pj, qj, xm, x1, x2, c1, c2, cm, b1, b2, jc, h⟩ := bnd_x d a1 g1 a2 g2 a3 g3
  refine T.seq (T.region ?_)
  refine TO.loud rfl (l_box (v := (dV d jd)) (cs := (dC d jd)) rfl rfl (fun z1 => ?_))
  refine TO.loud rfl (l_box (v := (.agg #[(.int .i64 a1.vars), (.int .i64 a1.start), (.slice j1.nb a1.next.length j1.nc), (.slice j1.fb a1.final.length j1.fc), (.int .i64 g1.vars), (.int .i64 g1.start), (.slice k1.nb g1.next.length k1.nc), (.slice k1.fb g1.final.length k1.fc), (.int .i64 a2.vars), (.int .i64 a2.start), (.slice j2.nb a2.next.length j2.nc), (.slice j2.fb a2.final.length j2.fc), (.int .i64 g2.vars), (.int .i64 g2.start), (.slice k2.nb g2.next.length k2.nc), (.slice k2.fb g2.final.length k2.fc), (.int .i64 a3.vars), (.int .i64 a3.start), (.slice j3.nb a3.next.length j3.nc), (.slice j3.fb a3.final.length j3.fc), (.int .i64 g3.vars), (.int .i64 g3.start), (.slice k3.nb g3.next.length k3.nc), (.slice k3.fb g3.final.length k3.fc)])) (cs := [(.int .i64 a1.vars), (.int .i64 a1.start), (.slice j1.nb a1.next.length j1.nc), (.slice j1.fb a1.final.length j1.fc), (.int .i64 g1.vars), (.int .i64 g1.start), (.slice k1.nb g1.next.length k1.nc), (.slice k1.fb g1.final.length k1.fc), (.int .i64 a2.vars), (.int .i64 a2.start), (.slice j2.nb a2.next.length j2.nc), (.slice j2.fb a2.final.length j2.fc), (.int .i64 g2.vars), (.int .i64 g2.start), (.slice k2.nb g2.next.length k2.nc), (.slice k2.fb g2.final.length k2.fc), (.int .i64 a3.vars), (.int .i64 a3.start), (.slice j3.nb a3.next.length j3.nc), (.slice j3.fb a3.final.length j3.fc), (.int .i64 g3.vars), (.int .i64 g3.start), (.slice k3.nb g3.next.length k3.nc), (.slice k3.fb g3.final.length k3.fc)]) rfl rfl (fun z2 => ?_))
  refine TO.quiet (q_assign rfl) ?_
  refine TO.nil ?_
  refine T.cut (fun ρ O => ∃ (b5 : Nat) (kX : DK) (b6 : Nat) (kA : DK) (kG : DK) (b7 : Nat) (kB : DK) (kH : DK) (b8 : Nat) (kC : DK) (kK : DK), O = [oI b5 25 (dC X kX), oI b6 27 (cC A G kA kG), oI b7 27 (cC B H kB kH), oI b8 27 (cC C K kC kK), dI 54 4 3 X kX, dI 54 4 3 A kA, dI 54 4 3 G kG, dI 54 4 3 B kB, dI 54 4 3 H kH, dI 54 4 3 C kC, dI 54 4 3 K kK, oI z2 40 [(.int .i64 a1.vars), (.int .i64 a1.start), (.slice j1.nb a1.next.length j1.nc), (.slice j1.fb a1.final.length j1.fc), (.int .i64 g1.vars), (.int .i64 g1.start), (.slice k1.nb g1.next.length k1.nc), (.slice k1.fb g1.final.length k1.fc), (.int .i64 a2.vars), (.int .i64 a2.start), (.slice j2.nb a2.next.length j2.nc), (.slice j2.fb a2.final.length j2.fc), (.int .i64 g2.vars), (.int .i64 g2.start), (.slice k2.nb g2.next.length k2.nc), (.slice k2.fb g2.final.length k2.fc), (.int .i64 a3.vars), (.int .i64 a3.start), (.slice j3.nb a3.next.length j3.nc), (.slice j3.fb a3.final.length j3.fc), (.int .i64 g3.vars), (.int .i64 g3.start), (.slice k3.nb g3.next.length k3.nc), (.slice k3.fb g3.final.length k3.fc)], oI z1 25 (dC d jd)] ∧ Heads [(0, (dV d jd)), (1, (.agg #[(.int .i64 a1.vars), (.int .i64 a1.start), (.slice j1.nb a1.next.length j1.nc), (.slice j1.fb a1.final.length j1.fc), (.int .i64 g1.vars), (.int .i64 g1.start), (.slice k1.nb g1.next.length k1.nc), (.slice k1.fb g1.final.length k1.fc), (.int .i64 a2.vars), (.int .i64 a2.start), (.slice j2.nb a2.next.length j2.nc), (.slice j2.fb a2.final.length j2.fc), (.int .i64 g2.vars), (.int .i64 g2.start), (.slice k2.nb g2.next.length k2.nc), (.slice k2.fb g2.final.length k2.fc), (.int .i64 a3.vars), (.int .i64 a3.start), (.slice j3.nb a3.next.length j3.nc), (.slice j3.fb a3.final.length j3.fc), (.int .i64 g3.vars), (.int .i64 g3.start), (.slice k3.nb g3.next.length k3.nc), (.slice k3.fb g3.final.length k3.fc)])), (2, (.pointer (some ⟨z1, 0, none⟩))), (3, (.pointer (some ⟨z2, 0, none⟩))), (4, .bool false), (5, (.pointer (some ⟨b5, 0, none⟩))), (6, (.pointer (some ⟨b6, 0, none⟩))), (7, (.pointer (some ⟨b7, 0, none⟩))), (8, (.pointer (some ⟨b8, 0, none⟩)))] ρ) ?_ ?_
  · refine T.treeT [oI z2 40 [(.int .i64 a1.vars), (.int .i64 a1.start), (.slice j1.nb a1.next.length j1.nc), (.slice j1.fb a1.final.length j1.fc), (.int .i64 g1.vars), (.int .i64 g1.start), (.slice k1.nb g1.next.length k1.nc), (.slice k1.fb g1.final.length k1.fc), (.int .i64 a2.vars), (.int .i64 a2.start), (.slice j2.nb a2.next.length j2.nc), (.slice j2.fb a2.final.length j2.fc), (.int .i64 g2.vars), (.int .i64 g2.start), (.slice k2.nb g2.next.length k2.nc), (.slice k2.fb g2.final.length k2.fc), (.int .i64 a3.vars), (.int .i64 a3.start), (.slice j3.nb a3.next.length j3.nc), (.slice j3.fb a3.final.length j3.fc), (.int .i64 g3.vars), (.int .i64 g3.start), (.slice k3.nb g3.next.length k3.nc), (.slice k3.fb g3.final.length k3.fc)], oI z1 25 (dC d jd)] [15, 16, 17, 18] 19 mixed rfl (by exact Sub.rf) (fun _ _ _ h => h) ?_
    refine RO.quietTT 0 rfl (by kernel_rfl) (q_load_boxAgg 1 Tryd.underlying25 rfl inf25 rfl rfl rfl) ?_
    refine RO.quietTT 2 rfl (by kernel_rfl) (q_ixArr (i := 0) Tryd.underlying40 inf27 rfl rfl (by decide)) ?_
    refine RO.quietTT 3 rfl (by kernel_rfl) (q_load_part 0 (vs := (cC a1 g1 j1 k1)) Tryd.underlying27 rfl inf27 rfl rfl rfl (by kernel_rfl)) ?_
    refine RO.quietTT 5 rfl (by kernel_rfl) (q_ixArr (i := 1) Tryd.underlying40 inf27 rfl rfl (by decide)) ?_
    refine RO.quietTT 6 rfl (by kernel_rfl) (q_load_part 0 (vs := (cC a2 g2 j2 k2)) Tryd.underlying27 rfl inf27 rfl rfl rfl (by kernel_rfl)) ?_
    refine RO.quietTT 8 rfl (by kernel_rfl) (q_ixArr (i := 2) Tryd.underlying40 inf27 rfl rfl (by decide)) ?_
    refine RO.quietTT 9 rfl (by kernel_rfl) (q_load_part 0 (vs := (cC a3 g3 j3 k3)) Tryd.underlying27 rfl inf27 rfl rfl rfl (by kernel_rfl)) ?_
    refine RO.makers (Wt := WtM) (fuel := 4) [⟨1, 14, fun x => (dV X x.k), fun x => [dI 54 4 3 X x.k]⟩, ⟨11, 5, fun x => (.pointer (some ⟨x.n, 0, none⟩)), fun x => [oI x.n 25 [(.int .i64 0), (.int .i64 0), (.slice none 0 0), (.slice none 0 0)]]⟩, ⟨4, 17, fun x => (cV A G x.k x.k2), fun x => [dI 54 4 3 A x.k, dI 54 4 3 G x.k2]⟩, ⟨12, 6, fun x => (.pointer (some ⟨x.n, 0, none⟩)), fun x => [oI x.n 27 [(.int .i64 0), (.int .i64 0), (.slice none 0 0), (.slice none 0 0), (.int .i64 0), (.int .i64 0), (.slice none 0 0), (.slice none 0 0)]]⟩, ⟨7, 20, fun x => (cV B H x.k x.k2), fun x => [dI 54 4 3 B x.k, dI 54 4 3 H x.k2]⟩, ⟨13, 7, fun x => (.pointer (some ⟨x.n, 0, none⟩)), fun x => [oI x.n 27 [(.int .i64 0), (.int .i64 0), (.slice none 0 0), (.slice none 0 0), (.int .i64 0), (.int .i64 0), (.slice none 0 0), (.slice none 0 0)]]⟩, ⟨10, 23, fun x => (cV C K x.k x.k2), fun x => [dI 54 4 3 C x.k, dI 54 4 3 K x.k2]⟩, ⟨14, 8, fun x => (.pointer (some ⟨x.n, 0, none⟩)), fun x => [oI x.n 27 [(.int .i64 0), (.int .i64 0), (.slice none 0 0), (.slice none 0 0), (.int .i64 0), (.int .i64 0), (.slice none 0 0), (.slice none 0 0)]]⟩] [(0, (dV d jd)), (1, (.agg #[(.int .i64 a1.vars), (.int .i64 a1.start), (.slice j1.nb a1.next.length j1.nc), (.slice j1.fb a1.final.length j1.fc), (.int .i64 g1.vars), (.int .i64 g1.start), (.slice k1.nb g1.next.length k1.nc), (.slice k1.fb g1.final.length k1.fc), (.int .i64 a2.vars), (.int .i64 a2.start), (.slice j2.nb a2.next.length j2.nc), (.slice j2.fb a2.final.length j2.fc), (.int .i64 g2.vars), (.int .i64 g2.start), (.slice k2.nb g2.next.length k2.nc), (.slice k2.fb g2.final.length k2.fc), (.int .i64 a3.vars), (.int .i64 a3.start), (.slice j3.nb a3.next.length j3.nc), (.slice j3.fb a3.final.length j3.fc), (.int .i64 g3.vars), (.int .i64 g3.start), (.slice k3.nb g3.next.length k3.nc), (.slice k3.fb g3.final.length k3.fc)])), (2, (.pointer (some ⟨z1, 0, none⟩))), (3, (.pointer (some ⟨z2, 0, none⟩))), (4, .bool false), (13, (dV d jd)), (16, (cV a1 g1 j1 k1)), (19, (cV a2 g2 j2 k2)), (22, (cV a3 g3 j3 k3))] (fun _ => WtM.z) (by kernel_rfl) (by exact Sub.rf) ?_ ?_ ⟨rfl, rfl, rfl, rfl, rfl, rfl, rfl, rfl, rfl, trivial⟩
    · intro q hq
      simp only [List.mem_cons, List.not_mem_nil, or_false] at hq
      rcases hq with rfl | rfl | rfl | rfl | rfl | rfl | rfl | rfl
      · refine ⟨_, rfl, rfl, fun ρ O hS hH => ?_⟩
        obtain ⟨ρ0, rfl⟩ := hH.elim
        clear hH
        have hk14 := fun (w1 : World) (hI : Inv w O w1) => (haveI := Inv.tab (P := Tryd.prog) hI; subE w1 d jd (hI.atB hd) bd 4 (by decide) (by decide) h.eX)
        refine l_call ent9 (CallT.of_pure hk14) rfl ?_
        clear hk14
        rintro vr O' ⟨N, rfl, kX, rfl, rfl⟩
        exact ⟨{ WtM.z with k := kX }, rfl, rfl⟩
      · refine ⟨_, rfl, rfl, fun ρ O hS hH => ?_⟩
        obtain ⟨ρ0, rfl⟩ := hH.elim
        clear hH
        exact l_alloc inf25 rfl (fun b5 => ⟨{ WtM.z with n := b5 }, rfl, rfl⟩)
      · refine ⟨_, rfl, rfl, fun ρ O hS hH => ?_⟩
        obtain ⟨ρ0, rfl⟩ := hH.elim
        clear hH
        have hk17 := fun (w1 : World) (hI : Inv w O w1) => (haveI := Inv.tab (P := Tryd.prog) hI; tameC w1 a1 g1 j1 k1 (hI.atB ha1) (hI.atB hg1) ba1 bg1 h.eA h.eG)
        refine l_call ent10 (CallT.of_pure hk17) rfl ?_
        clear hk17
        rintro vr O' ⟨N, rfl, kA, kG, rfl, rfl⟩
        exact ⟨{ WtM.z with k := kA, k2 := kG }, rfl, rfl⟩
      · refine ⟨_, rfl, rfl, fun ρ O hS hH => ?_⟩
        obtain ⟨ρ0, rfl⟩ := hH.elim
        clear hH
        exact l_alloc inf27 rfl (fun b6 => ⟨{ WtM.z with n := b6 }, rfl, rfl⟩)
      · refine ⟨_, rfl, rfl, fun ρ O hS hH => ?_⟩
        obtain ⟨ρ0, rfl⟩ := hH.elim
        clear hH
        have hk20 := fun (w1 : World) (hI : Inv w O w1) => (haveI := Inv.tab (P := Tryd.prog) hI; tameC w1 a2 g2 j2 k2 (hI.atB ha2) (hI.atB hg2) ba2 bg2 h.eB h.eH)
        refine l_call ent10 (CallT.of_pure hk20) rfl ?_
        clear hk20
        rintro vr O' ⟨N, rfl, kB, kH, rfl, rfl⟩
        exact ⟨{ WtM.z with k := kB, k2 := kH }, rfl, rfl⟩
      · refine ⟨_, rfl, rfl, fun ρ O hS hH => ?_⟩
        obtain ⟨ρ0, rfl⟩ := hH.elim
        clear hH
        exact l_alloc inf27 rfl (fun b7 => ⟨{ WtM.z with n := b7 }, rfl, rfl⟩)
      · refine ⟨_, rfl, rfl, fun ρ O hS hH => ?_⟩
        obtain ⟨ρ0, rfl⟩ := hH.elim
        clear hH
        have hk23 := fun (w1 : World) (hI : Inv w O w1) => (haveI := Inv.tab (P := Tryd.prog) hI; tameC w1 a3 g3 j3 k3 (hI.atB ha3) (hI.atB hg3) ba3 bg3 h.eC h.eK)
        refine l_call ent10 (CallT.of_pure hk23) rfl ?_
        clear hk23
        rintro vr O' ⟨N, rfl, kC, kK, rfl, rfl⟩
        exact ⟨{ WtM.z with k := kC, k2 := kK }, rfl, rfl⟩
      · refine ⟨_, rfl, rfl, fun ρ O hS hH => ?_⟩
        obtain ⟨ρ0, rfl⟩ := hH.elim
        clear hH
        exact l_alloc inf27 rfl (fun b8 => ⟨{ WtM.z with n := b8 }, rfl, rfl⟩)
    intro wm ρ hH
    obtain ⟨kX, e9kX⟩ : ∃ x, x = (wm 1).k := ⟨_, rfl⟩
    obtain ⟨b5, e9b5⟩ : ∃ x, x = (wm 11).n := ⟨_, rfl⟩
    obtain ⟨kA, e9kA⟩ : ∃ x, x = (wm 4).k := ⟨_, rfl⟩
    obtain ⟨kG, e9kG⟩ : ∃ x, x = (wm 4).k2 := ⟨_, rfl⟩
    obtain ⟨b6, e9b6⟩ : ∃ x, x = (wm 12).n := ⟨_, rfl⟩
    obtain ⟨kB, e9kB⟩ : ∃ x, x = (wm 7).k := ⟨_, rfl⟩
    obtain ⟨kH, e9kH⟩ : ∃ x, x = (wm 7).k2 := ⟨_, rfl⟩
    obtain ⟨b7, e9b7⟩ : ∃ x, x = (wm 13).n := ⟨_, rfl⟩
    obtain ⟨kC, e9kC⟩ : ∃ x, x = (wm 10).k := ⟨_, rfl⟩
    obtain ⟨kK, e9kK⟩ : ∃ x, x = (wm 10).k2 := ⟨_, rfl⟩
    obtain ⟨b8, e9b8⟩ : ∃ x, x = (wm 14).n := ⟨_, rfl⟩
    have hH2 : Heads [(14, (dV X kX)), (5, (.pointer (some ⟨b5, 0, none⟩))), (17, (cV A G kA kG)), (6, (.pointer (some ⟨b6, 0, none⟩))), (20, (cV B H kB kH)), (7, (.pointer (some ⟨b7, 0, none⟩))), (23, (cV C K kC kK)), (8, (.pointer (some ⟨b8, 0, none⟩))), (0, (dV d jd)), (1, (.agg #[(.int .i64 a1.vars), (.int .i64 a1.start), (.slice j1.nb a1.next.length j1.nc), (.slice j1.fb a1.final.length j1.fc), (.int .i64 g1.vars), (.int .i64 g1.start), (.slice k1.nb g1.next.length k1.nc), (.slice k1.fb g1.final.length k1.fc), (.int .i64 a2.vars), (.int .i64 a2.start), (.slice j2.nb a2.next.length j2.nc), (.slice j2.fb a2.final.length j2.fc), (.int .i64 g2.vars), (.int .i64 g2.start), (.slice k2.nb g2.next.length k2.nc), (.slice k2.fb g2.final.length k2.fc), (.int .i64 a3.vars), (.int .i64 a3.start), (.slice j3.nb a3.next.length j3.nc), (.slice j3.fb a3.final.length j3.fc), (.int .i64 g3.vars), (.int .i64 g3.start), (.slice k3.nb g3.next.length k3.nc), (.slice k3.fb g3.final.length k3.fc)])), (2, (.pointer (some ⟨z1, 0, none⟩))), (3, (.pointer (some ⟨z2, 0, none⟩))), (4, .bool false), (13, (dV d jd)), (16, (cV a1 g1 j1 k1)), (19, (cV a2 g2 j2 k2)), (22, (cV a3 g3 j3 k3))] ρ := by subst e9kX e9b5 e9kA e9kG e9b6 e9kB e9kH e9b7 e9kC e9kK e9b8; exact hH
    refine RO.sub (O' := [dI 54 4 3 X kX, oI b5 25 [(.int .i64 0), (.int .i64 0), (.slice none 0 0), (.slice none 0 0)], dI 54 4 3 A kA, dI 54 4 3 G kG, oI b6 27 [(.int .i64 0), (.int .i64 0), (.slice none 0 0), (.slice none 0 0), (.int .i64 0), (.int .i64 0), (.slice none 0 0), (.slice none 0 0)], dI 54 4 3 B kB, dI 54 4 3 H kH, oI b7 27 [(.int .i64 0), (.int .i64 0), (.slice none 0 0), (.slice none 0 0), (.int .i64 0), (.int .i64 0), (.slice none 0 0), (.slice none 0 0)], dI 54 4 3 C kC, dI 54 4 3 K kK, oI b8 27 [(.int .i64 0), (.int .i64 0), (.slice none 0 0), (.slice none 0 0), (.int .i64 0), (.int .i64 0), (.slice none 0 0), (.slice none 0 0)], oI z2 40 [(.int .i64 a1.vars), (.int .i64 a1.start), (.slice j1.nb a1.next.length j1.nc), (.slice j1.fb a1.final.length j1.fc), (.int .i64 g1.vars), (.int .i64 g1.start), (.slice k1.nb g1.next.length k1.nc), (.slice k1.fb g1.final.length k1.fc), (.int .i64 a2.vars), (.int .i64 a2.start), (.slice j2.nb a2.next.length j2.nc), (.slice j2.fb a2.final.length j2.fc), (.int .i64 g2.vars), (.int .i64 g2.start), (.slice k2.nb g2.next.length k2.nc), (.slice k2.fb g2.final.length k2.fc), (.int .i64 a3.vars), (.int .i64 a3.start), (.slice j3.nb a3.next.length j3.nc), (.slice j3.fb a3.final.length j3.fc), (.int .i64 g3.vars), (.int .i64 g3.start), (.slice k3.nb g3.next.length k3.nc), (.slice k3.fb g3.final.length k3.fc)], oI z1 25 (dC d jd)]) (by subst e9kX e9b5 e9kA e9kG e9b6 e9kB e9kH e9b7 e9kC e9kK e9b8; exact Sub.rf) ?_
    clear hH e9kX e9b5 e9kA e9kG e9b6 e9kB e9kH e9b7 e9kC e9kK e9b8
    obtain ⟨ρ0, rfl⟩ := hH2.elim
    clear hH2
    refine RO.forkT [15] (by kernel_rfl) rfl ⟨⟨_, rfl, rfl, l_store_box (v := (dV X kX)) (vs := (dC X kX)) 1 inf25 rfl rfl rfl rfl rfl rfl (by simp [putL]) ⟨.inl (by decide), ?_⟩⟩, trivial⟩ (by kernel_rfl)
    refine RO.sub (O' := [dI 54 4 3 X kX, oI b5 25 (dC X kX), dI 54 4 3 A kA, dI 54 4 3 G kG, oI b6 27 [(.int .i64 0), (.int .i64 0), (.slice none 0 0), (.slice none 0 0), (.int .i64 0), (.int .i64 0), (.slice none 0 0), (.slice none 0 0)], dI 54 4 3 B kB, dI 54 4 3 H kH, oI b7 27 [(.int .i64 0), (.int .i64 0), (.slice none 0 0), (.slice none 0 0), (.int .i64 0), (.int .i64 0), (.slice none 0 0), (.slice none 0 0)], dI 54 4 3 C kC, dI 54 4 3 K kK, oI b8 27 [(.int .i64 0), (.int .i64 0), (.slice none 0 0), (.slice none 0 0), (.int .i64 0), (.int .i64 0), (.slice none 0 0), (.slice none 0 0)], oI z2 40 [(.int .i64 a1.vars), (.int .i64 a1.start), (.slice j1.nb a1.next.length j1.nc), (.slice j1.fb a1.final.length j1.fc), (.int .i64 g1.vars), (.int .i64 g1.start), (.slice k1.nb g1.next.length k1.nc), (.slice k1.fb g1.final.length k1.fc), (.int .i64 a2.vars), (.int .i64 a2.start), (.slice j2.nb a2.next.length j2.nc), (.slice j2.fb a2.final.length j2.fc), (.int .i64 g2.vars), (.int .i64 g2.start), (.slice k2.nb g2.next.length k2.nc), (.slice k2.fb g2.final.length k2.fc), (.int .i64 a3.vars), (.int .i64 a3.start), (.slice j3.nb a3.next.length j3.nc), (.slice j3.fb a3.final.length j3.fc), (.int .i64 g3.vars), (.int .i64 g3.start), (.slice k3.nb g3.next.length k3.nc), (.slice k3.fb g3.final.length k3.fc)], oI z1 25 (dC d jd)]) (by exact Sub.rf) ?_
    refine RO.forkT [16] (by kernel_rfl) rfl ⟨⟨_, rfl, rfl, l_store_box (v := (cV A G kA kG)) (vs := (cC A G kA kG)) 4 inf27 rfl rfl rfl rfl rfl rfl (by simp [putL]) ⟨.inl (by decide), ?_⟩⟩, trivial⟩ (by kernel_rfl)
    refine RO.sub (O' := [dI 54 4 3 X kX, oI b5 25 (dC X kX), dI 54 4 3 A kA, dI 54 4 3 G kG, oI b6 27 (cC A G kA kG), dI 54 4 3 B kB, dI 54 4 3 H kH, oI b7 27 [(.int .i64 0), (.int .i64 0), (.slice none 0 0), (.slice none 0 0), (.int .i64 0), (.int .i64 0), (.slice none 0 0), (.slice none 0 0)], dI 54 4 3 C kC, dI 54 4 3 K kK, oI b8 27 [(.int .i64 0), (.int .i64 0), (.slice none 0 0), (.slice none 0 0), (.int .i64 0), (.int .i64 0), (.slice none 0 0), (.slice none 0 0)], oI z2 40 [(.int .i64 a1.vars), (.int .i64 a1.start), (.slice j1.nb a1.next.length j1.nc), (.slice j1.fb a1.final.length j1.fc), (.int .i64 g1.vars), (.int .i64 g1.start), (.slice k1.nb g1.next.length k1.nc), (.slice k1.fb g1.final.length k1.fc), (.int .i64 a2.vars), (.int .i64 a2.start), (.slice j2.nb a2.next.length j2.nc), (.slice j2.fb a2.final.length j2.fc), (.int .i64 g2.vars), (.int .i64 g2.start), (.slice k2.nb g2.next.length k2.nc), (.slice k2.fb g2.final.length k2.fc), (.int .i64 a3.vars), (.int .i64 a3.start), (.slice j3.nb a3.next.length j3.nc), (.slice j3.fb a3.final.length j3.fc), (.int .i64 g3.vars), (.int .i64 g3.start), (.slice k3.nb g3.next.length k3.nc), (.slice k3.fb g3.final.length k3.fc)], oI z1 25 (dC d jd)]) (by exact Sub.rf) ?_
    refine RO.forkT [17] (by kernel_rfl) rfl ⟨⟨_, rfl, rfl, l_store_box (v := (cV B H kB kH)) (vs := (cC B H kB kH)) 7 inf27 rfl rfl rfl rfl rfl rfl (by simp [putL]) ⟨.inl (by decide), ?_⟩⟩, trivial⟩ (by kernel_rfl)
    refine RO.sub (O' := [dI 54 4 3 X kX, oI b5 25 (dC X kX), dI 54 4 3 A kA, dI 54 4 3 G kG, oI b6 27 (cC A G kA kG), dI 54 4 3 B kB, dI 54 4 3 H kH, oI b7 27 (cC B H kB kH), dI 54 4 3 C kC, dI 54 4 3 K kK, oI b8 27 [(.int .i64 0), (.int .i64 0), (.slice none 0 0), (.slice none 0 0), (.int .i64 0), (.int .i64 0), (.slice none 0 0), (.slice none 0 0)], oI z2 40 [(.int .i64 a1.vars), (.int .i64 a1.start), (.slice j1.nb a1.next.length j1.nc), (.slice j1.fb a1.final.length j1.fc), (.int .i64 g1.vars), (.int .i64 g1.start), (.slice k1.nb g1.next.length k1.nc), (.slice k1.fb g1.final.length k1.fc), (.int .i64 a2.vars), (.int .i64 a2.start), (.slice j2.nb a2.next.length j2.nc), (.slice j2.fb a2.final.length j2.fc), (.int .i64 g2.vars), (.int .i64 g2.start), (.slice k2.nb g2.next.length k2.nc), (.slice k2.fb g2.final.length k2.fc), (.int .i64 a3.vars), (.int .i64 a3.start), (.slice j3.nb a3.next.length j3.nc), (.slice j3.fb a3.final.length j3.fc), (.int .i64 g3.vars), (.int .i64 g3.start), (.slice k3.nb g3.next.length k3.nc), (.slice k3.fb g3.final.length k3.fc)], oI z1 25 (dC d jd)]) (by exact Sub.rf) ?_
    refine RO.forkT [18] (by kernel_rfl) rfl ⟨⟨_, rfl, rfl, l_store_box (v := (cV C K kC kK)) (vs := (cC C K kC kK)) 10 inf27 rfl rfl rfl rfl rfl rfl (by simp [putL]) ⟨.inl (by decide), ?_⟩⟩, trivial⟩ (by kernel_rfl)
    refine RO.sub (O' := [dI 54 4 3 X kX, oI b5 25 (dC X kX), dI 54 4 3 A kA, dI 54 4 3 G kG, oI b6 27 (cC A G kA kG), dI 54 4 3 B kB, dI 54 4 3 H kH, oI b7 27 (cC B H kB kH), dI 54 4 3 C kC, dI 54 4 3 K kK, oI b8 27 (cC C K kC kK), oI z2 40 [(.int .i64 a1.vars), (.int .i64 a1.start), (.slice j1.nb a1.next.length j1.nc), (.slice j1.fb a1.final.length j1.fc), (.int .i64 g1.vars), (.int .i64 g1.start), (.slice k1.nb g1.next.length k1.nc), (.slice k1.fb g1.final.length k1.fc), (.int .i64 a2.vars), (.int .i64 a2.start), (.slice j2.nb a2.next.length j2.nc), (.slice j2.fb a2.final.length j2.fc), (.int .i64 g2.vars), (.int .i64 g2.start), (.slice k2.nb g2.next.length k2.nc), (.slice k2.fb g2.final.length k2.fc), (.int .i64 a3.vars), (.int .i64 a3.start), (.slice j3.nb a3.next.length j3.nc), (.slice j3.fb a3.final.length j3.fc), (.int .i64 g3.vars), (.int .i64 g3.start), (.slice k3.nb g3.next.length k3.nc), (.slice k3.fb g3.final.length k3.fc)], oI z1 25 (dC d jd)]) (by exact Sub.rf) ?_
    exact RO.fin (by kernel_rfl) ⟨b5, kX, b6, kA, kG, b7, kB, kH, b8, kC, kK, rfl, ⟨rfl, rfl, rfl, rfl, rfl, rfl, rfl, rfl, rfl, trivial⟩⟩ (Sub.pick [1, 3, 5, 7, 0, 0, 0, 0, 0, 0, 0, 0, 0] rfl)
  rintro ρ O ⟨b5, kX, b6, kA, kG, b7, kB, kH, b8, kC, kK, rfl, hH⟩
  obtain ⟨ρ0, rfl⟩ := hH.elim
  clear hH
  refine T.seq (T.region ?_)
  refine TO.quiet (q_load_boxAgg 1 Tryd.underlying27 rfl inf27 rfl rfl rfl) (TO.quiet (q_load_boxAgg 2 Tryd.underlying27 rfl inf27 rfl rfl rfl) ?_)
  have hk27 := fun (w1 : World) (hI : Inv w [oI b5 25 (dC X kX), oI b6 27 (cC A G kA kG), oI b7 27 (cC B H kB kH), oI b8 27 (cC C K kC kK), dI 54 4 3 X kX, dI 54 4 3 A kA, dI 54 4 3 G kG, dI 54 4 3 B kB, dI 54 4 3 H kH, dI 54 4 3 C kC, dI 54 4 3 K kK, oI z2 40 [(.int .i64 a1.vars), (.int .i64 a1.start), (.slice j1.nb a1.next.length j1.nc), (.slice j1.fb a1.final.length j1.fc), (.int .i64 g1.vars), (.int .i64 g1.start), (.slice k1.nb g1.next.length k1.nc), (.slice k1.fb g1.final.length k1.fc), (.int .i64 a2.vars), (.int .i64 a2.start), (.slice j2.nb a2.next.length j2.nc), (.slice j2.fb a2.final.length j2.fc), (.int .i64 g2.vars), (.int .i64 g2.start), (.slice k2.nb g2.next.length k2.nc), (.slice k2.fb g2.final.length k2.fc), (.int .i64 a3.vars), (.int .i64 a3.start), (.slice j3.nb a3.next.length j3.nc), (.slice j3.fb a3.final.length j3.fc), (.int .i64 g3.vars), (.int .i64 g3.start), (.slice k3.nb g3.next.length k3.nc), (.slice k3.fb g3.final.length k3.fc)], oI z1 25 (dC d jd)] w1) => (haveI := Inv.tab (P := Tryd.prog) hI; meetX w1 h.hz h.a h.g h.b h.h kA kG kB kH (hI.at (k := kA) (List.mem_of_getElem? (i := 5) rfl)) (hI.at (k := kG) (List.mem_of_getElem? (i := 6) rfl)) (hI.at (k := kB) (List.mem_of_getElem? (i := 7) rfl)) (hI.at (k := kH) (List.mem_of_getElem? (i := 8) rfl)) h.eM h.eN)
  refine TO.loud rfl (l_call ent20 (CallT.of_pure hk27) rfl ?_)
  clear hk27
  rintro vr O' ⟨N, rfl, kM, kN, rfl, rfl⟩
  refine TO.quiet (q_move rfl) (TO.quiet (q_extract (vs := _) rfl rfl) (TO.quiet (q_extract (vs := _) rfl rfl) ?_))
  refine TO.loud rfl (l_alloc inf27 rfl (fun z3 => ?_))
  refine TO.loud rfl (l_store_box (v := (cV M N kM kN)) (vs := (cC M N kM kN)) 0 inf27 rfl rfl rfl rfl rfl rfl (by simp [putL]) ?_)
  refine TO.quiet (q_assign rfl) ?_
  refine TO.nil (T.seq (T.region ?_))
  refine TO.quiet (q_load_boxAgg 4 Tryd.underlying27 rfl inf27 rfl rfl rfl) (TO.quiet (q_load_boxAgg 5 Tryd.underlying27 rfl inf27 rfl rfl rfl) ?_)
  have hk33 := fun (w1 : World) (hI : Inv w [oI z3 27 (cC M N kM kN), dI 54 4 3 M kM, dI 54 4 3 N kN, oI b5 25 (dC X kX), oI b6 27 (cC A G kA kG), oI b7 27 (cC B H kB kH), oI b8 27 (cC C K kC kK), dI 54 4 3 X kX, dI 54 4 3 A kA, dI 54 4 3 G kG, dI 54 4 3 B kB, dI 54 4 3 H kH, dI 54 4 3 C kC, dI 54 4 3 K kK, oI z2 40 [(.int .i64 a1.vars), (.int .i64 a1.start), (.slice j1.nb a1.next.length j1.nc), (.slice j1.fb a1.final.length j1.fc), (.int .i64 g1.vars), (.int .i64 g1.start), (.slice k1.nb g1.next.length k1.nc), (.slice k1.fb g1.final.length k1.fc), (.int .i64 a2.vars), (.int .i64 a2.start), (.slice j2.nb a2.next.length j2.nc), (.slice j2.fb a2.final.length j2.fc), (.int .i64 g2.vars), (.int .i64 g2.start), (.slice k2.nb g2.next.length k2.nc), (.slice k2.fb g2.final.length k2.fc), (.int .i64 a3.vars), (.int .i64 a3.start), (.slice j3.nb a3.next.length j3.nc), (.slice j3.fb a3.final.length j3.fc), (.int .i64 g3.vars), (.int .i64 g3.start), (.slice k3.nb g3.next.length k3.nc), (.slice k3.fb g3.final.length k3.fc)], oI z1 25 (dC d jd)] w1) => (haveI := Inv.tab (P := Tryd.prog) hI; joinX w1 h.hz h.a h.g h.b h.h kA kG kB kH (hI.at (k := kA) (List.mem_of_getElem? (i := 8) rfl)) (hI.at (k := kG) (List.mem_of_getElem? (i := 9) rfl)) (hI.at (k := kB) (List.mem_of_getElem? (i := 10) rfl)) (hI.at (k := kH) (List.mem_of_getElem? (i := 11) rfl)) h.eJ h.eL)
  refine TO.loud rfl (l_call ent21 (CallT.of_pure hk33) rfl ?_)
  clear hk33
  rintro vr O' ⟨N, rfl, kJ, kL, rfl, rfl⟩
  refine TO.quiet (q_move rfl) (TO.quiet (q_extract (vs := _) rfl rfl) (TO.quiet (q_extract (vs := _) rfl rfl) ?_))
  refine TO.loud rfl (l_alloc inf27 rfl (fun z4 => ?_))
  refine TO.loud rfl (l_store_box (v := (cV J L kJ kL)) (vs := (cC J L kJ kL)) 0 inf27 rfl rfl rfl rfl rfl rfl (by simp [putL]) ?_)
  refine TO.quiet (q_assign rfl) ?_
  refine TO.nil ?_
  refine T.reset [oI z4 27 (cC J L kJ kL), dI 54 4 3 J kJ, dI 54 4 3 L kL, oI z3 27 (cC M N kM kN), dI 54 4 3 M kM, dI 54 4 3 N kN, oI b5 25 (dC X kX), oI b6 27 (cC A G kA kG), oI b7 27 (cC B H kB kH), oI b8 27 (cC C K kC kK), dI 54 4 3 X kX, dI 54 4 3 A kA, dI 54 4 3 G kG, dI 54 4 3 B kB, dI 54 4 3 H kH, dI 54 4 3 C kC, dI 54 4 3 K kK, oI z2 40 [(.int .i64 a1.vars), (.int .i64 a1.start), (.slice j1.nb a1.next.length j1.nc), (.slice j1.fb a1.final.length j1.fc), (.int .i64 g1.vars), (.int .i64 g1.start), (.slice k1.nb g1.next.length k1.nc), (.slice k1.fb g1.final.length k1.fc), (.int .i64 a2.vars), (.int .i64 a2.start), (.slice j2.nb a2.next.length j2.nc), (.slice j2.fb a2.final.length j2.fc), (.int .i64 g2.vars), (.int .i64 g2.start), (.slice k2.nb g2.next.length k2.nc), (.slice k2.fb g2.final.length k2.fc), (.int .i64 a3.vars), (.int .i64 a3.start), (.slice j3.nb a3.next.length j3.nc), (.slice j3.fb a3.final.length j3.fc), (.int .i64 g3.vars), (.int .i64 g3.start), (.slice k3.nb g3.next.length k3.nc), (.slice k3.fb g3.final.length k3.fc)], oI z1 25 (dC d jd)] [(0, (dV d jd)), (1, (.agg #[(.int .i64 a1.vars), (.int .i64 a1.start), (.slice j1.nb a1.next.length j1.nc), (.slice j1.fb a1.final.length j1.fc), (.int .i64 g1.vars), (.int .i64 g1.start), (.slice k1.nb g1.next.length k1.nc), (.slice k1.fb g1.final.length k1.fc), (.int .i64 a2.vars), (.int .i64 a2.start), (.slice j2.nb a2.next.length j2.nc), (.slice j2.fb a2.final.length j2.fc), (.int .i64 g2.vars), (.int .i64 g2.start), (.slice k2.nb g2.next.length k2.nc), (.slice k2.fb g2.final.length k2.fc), (.int .i64 a3.vars), (.int .i64 a3.start), (.slice j3.nb a3.next.length j3.nc), (.slice j3.fb a3.final.length j3.fc), (.int .i64 g3.vars), (.int .i64 g3.start), (.slice k3.nb g3.next.length k3.nc), (.slice k3.fb g3.final.length k3.fc)])), (2, (.pointer (some ⟨z1, 0, none⟩))), (3, (.pointer (some ⟨z2, 0, none⟩))), (4, .bool false), (5, (.pointer (some ⟨b5, 0, none⟩))), (6, (.pointer (some ⟨b6, 0, none⟩))), (7, (.pointer (some ⟨b7, 0, none⟩))), (8, (.pointer (some ⟨b8, 0, none⟩))), (9, (.pointer (some ⟨z3, 0, none⟩))), (10, .int .i64 0), (11, (.pointer (some ⟨z4, 0, none⟩))), (12, .int .i64 0)] rfl ⟨rfl, rfl, rfl, rfl, rfl, rfl, rfl, rfl, rfl, rfl, rfl, rfl, rfl, trivial⟩ (fun ρ0 => ?_)
  refine T.seq (T.seq (T.region ?_))
  refine TO.quiet (q_move rfl) (TO.quiet (QT.toB (q_neq rfl rfl) (decide_eq_false (fun h => h rfl))) (TO.quiet (q_move rfl) ?_))
  refine TO.guarded rfl rfl rfl (LT.of_quiet rfl rfl (q_move rfl) ?_)
  refine TO.guarded rfl rfl rfl (LT.of_quiet rfl rfl (QT.toB (q_neq rfl rfl) (decide_eq_false (fun h => h rfl))) ?_)
  refine TO.quiet (q_pick0 rfl rfl) (TO.quiet (q_move rfl) ?_)
  refine TO.guarded rfl rfl rfl (LT.of_quiet rfl rfl (q_load_boxAgg 3 Tryd.underlying27 rfl inf27 rfl rfl rfl) ?_)
  refine TO.guarded rfl rfl rfl (LT.of_quiet rfl rfl (q_load_boxAgg 7 Tryd.underlying27 rfl inf27 rfl rfl rfl) ?_)
  have hk45 := fun (w1 : World) (hI : Inv w [oI z4 27 (cC J L kJ kL), dI 54 4 3 J kJ, dI 54 4 3 L kL, oI z3 27 (cC M N kM kN), dI 54 4 3 M kM, dI 54 4 3 N kN, oI b5 25 (dC X kX), oI b6 27 (cC A G kA kG), oI b7 27 (cC B H kB kH), oI b8 27 (cC C K kC kK), dI 54 4 3 X kX, dI 54 4 3 A kA, dI 54 4 3 G kG, dI 54 4 3 B kB, dI 54 4 3 H kH, dI 54 4 3 C kC, dI 54 4 3 K kK, oI z2 40 [(.int .i64 a1.vars), (.int .i64 a1.start), (.slice j1.nb a1.next.length j1.nc), (.slice j1.fb a1.final.length j1.fc), (.int .i64 g1.vars), (.int .i64 g1.start), (.slice k1.nb g1.next.length k1.nc), (.slice k1.fb g1.final.length k1.fc), (.int .i64 a2.vars), (.int .i64 a2.start), (.slice j2.nb a2.next.length j2.nc), (.slice j2.fb a2.final.length j2.fc), (.int .i64 g2.vars), (.int .i64 g2.start), (.slice k2.nb g2.next.length k2.nc), (.slice k2.fb g2.final.length k2.fc), (.int .i64 a3.vars), (.int .i64 a3.start), (.slice j3.nb a3.next.length j3.nc), (.slice j3.fb a3.final.length j3.fc), (.int .i64 g3.vars), (.int .i64 g3.start), (.slice k3.nb g3.next.length k3.nc), (.slice k3.fb g3.final.length k3.fc)], oI z1 25 (dC d jd)] w1) => (haveI := Inv.tab (P := Tryd.prog) hI; refZ w1 h.hz h.m h.n h.a h.g kM kN kA kG (hI.at (k := kM) (List.mem_of_getElem? (i := 4) rfl)) (hI.at (k := kN) (List.mem_of_getElem? (i := 5) rfl)) (hI.at (k := kA) (List.mem_of_getElem? (i := 11) rfl)) (hI.at (k := kG) (List.mem_of_getElem? (i := 12) rfl)) h.rm1)
  refine TO.guarded rfl rfl rfl (l_call ent19 (CallT.of_pure hk45) rfl ?_)
  clear hk45
  rintro vr O' ⟨N, rfl, rfl, rfl⟩
  refine TO.guarded rfl rfl rfl (LT.of_quiet rfl rfl (q_not rfl) ?_)
  refine TO.quiet (q_pick0 rfl rfl) (TO.quiet (q_move rfl) ?_)
  refine TO.guarded rfl rfl rfl (LT.of_quiet rfl rfl (q_load_boxAgg 3 Tryd.underlying27 rfl inf27 rfl rfl rfl) ?_)
  refine TO.guarded rfl rfl rfl (LT.of_quiet rfl rfl (q_load_boxAgg 8 Tryd.underlying27 rfl inf27 rfl rfl rfl) ?_)
  have hk51 := fun (w1 : World) (hI : Inv w [oI z4 27 (cC J L kJ kL), dI 54 4 3 J kJ, dI 54 4 3 L kL, oI z3 27 (cC M N kM kN), dI 54 4 3 M kM, dI 54 4 3 N kN, oI b5 25 (dC X kX), oI b6 27 (cC A G kA kG), oI b7 27 (cC B H kB kH), oI b8 27 (cC C K kC kK), dI 54 4 3 X kX, dI 54 4 3 A kA, dI 54 4 3 G kG, dI 54 4 3 B kB, dI 54 4 3 H kH, dI 54 4 3 C kC, dI 54 4 3 K kK, oI z2 40 [(.int .i64 a1.vars), (.int .i64 a1.start), (.slice j1.nb a1.next.length j1.nc), (.slice j1.fb a1.final.length j1.fc), (.int .i64 g1.vars), (.int .i64 g1.start), (.slice k1.nb g1.next.length k1.nc), (.slice k1.fb g1.final.length k1.fc), (.int .i64 a2.vars), (.int .i64 a2.start), (.slice j2.nb a2.next.length j2.nc), (.slice j2.fb a2.final.length j2.fc), (.int .i64 g2.vars), (.int .i64 g2.start), (.slice k2.nb g2.next.length k2.nc), (.slice k2.fb g2.final.length k2.fc), (.int .i64 a3.vars), (.int .i64 a3.start), (.slice j3.nb a3.next.length j3.nc), (.slice j3.fb a3.final.length j3.fc), (.int .i64 g3.vars), (.int .i64 g3.start), (.slice k3.nb g3.next.length k3.nc), (.slice k3.fb g3.final.length k3.fc)], oI z1 25 (dC d jd)] w1) => (haveI := Inv.tab (P := Tryd.prog) hI; refZ w1 h.hz h.m h.n h.b h.h kM kN kB kH (hI.at (k := kM) (List.mem_of_getElem? (i := 4) rfl)) (hI.at (k := kN) (List.mem_of_getElem? (i := 5) rfl)) (hI.at (k := kB) (List.mem_of_getElem? (i := 13) rfl)) (hI.at (k := kH) (List.mem_of_getElem? (i := 14) rfl)) h.rm2)
  refine TO.guarded rfl rfl rfl (l_call ent19 (CallT.of_pure hk51) rfl ?_)
  clear hk51
  rintro vr O' ⟨N, rfl, rfl, rfl⟩
  refine TO.guarded rfl rfl rfl (LT.of_quiet rfl rfl (q_not rfl) ?_)
  refine TO.quiet (q_pick0 rfl rfl) (TO.quiet (q_move rfl) ?_)
  refine TO.guarded rfl rfl rfl (LT.of_quiet rfl rfl (q_load_boxAgg 7 Tryd.underlying27 rfl inf27 rfl rfl rfl) ?_)
  refine TO.guarded rfl rfl rfl (LT.of_quiet rfl rfl (q_load_boxAgg 0 Tryd.underlying27 rfl inf27 rfl rfl rfl) ?_)
  have hk57 := fun (w1 : World) (hI : Inv w [oI z4 27 (cC J L kJ kL), dI 54 4 3 J kJ, dI 54 4 3 L kL, oI z3 27 (cC M N kM kN), dI 54 4 3 M kM, dI 54 4 3 N kN, oI b5 25 (dC X kX), oI b6 27 (cC A G kA kG), oI b7 27 (cC B H kB kH), oI b8 27 (cC C K kC kK), dI 54 4 3 X kX, dI 54 4 3 A kA, dI 54 4 3 G kG, dI 54 4 3 B kB, dI 54 4 3 H kH, dI 54 4 3 C kC, dI 54 4 3 K kK, oI z2 40 [(.int .i64 a1.vars), (.int .i64 a1.start), (.slice j1.nb a1.next.length j1.nc), (.slice j1.fb a1.final.length j1.fc), (.int .i64 g1.vars), (.int .i64 g1.start), (.slice k1.nb g1.next.length k1.nc), (.slice k1.fb g1.final.length k1.fc), (.int .i64 a2.vars), (.int .i64 a2.start), (.slice j2.nb a2.next.length j2.nc), (.slice j2.fb a2.final.length j2.fc), (.int .i64 g2.vars), (.int .i64 g2.start), (.slice k2.nb g2.next.length k2.nc), (.slice k2.fb g2.final.length k2.fc), (.int .i64 a3.vars), (.int .i64 a3.start), (.slice j3.nb a3.next.length j3.nc), (.slice j3.fb a3.final.length j3.fc), (.int .i64 g3.vars), (.int .i64 g3.start), (.slice k3.nb g3.next.length k3.nc), (.slice k3.fb g3.final.length k3.fc)], oI z1 25 (dC d jd)] w1) => (haveI := Inv.tab (P := Tryd.prog) hI; refZ w1 h.hz h.a h.g h.j h.l kA kG kJ kL (hI.at (k := kA) (List.mem_of_getElem? (i := 11) rfl)) (hI.at (k := kG) (List.mem_of_getElem? (i := 12) rfl)) (hI.at (k := kJ) (List.mem_of_getElem? (i := 1) rfl)) (hI.at (k := kL) (List.mem_of_getElem? (i := 2) rfl)) h.rj1)
  refine TO.guarded rfl rfl rfl (l_call ent19 (CallT.of_pure hk57) rfl ?_)
  clear hk57
  rintro vr O' ⟨N, rfl, rfl, rfl⟩
  refine TO.guarded rfl rfl rfl (LT.of_quiet rfl rfl (q_not rfl) ?_)
  refine TO.quiet (q_pick0 rfl rfl) (TO.quiet (q_move rfl) ?_)
  refine TO.guarded rfl rfl rfl (LT.of_quiet rfl rfl (q_load_boxAgg 8 Tryd.underlying27 rfl inf27 rfl rfl rfl) ?_)
  refine TO.guarded rfl rfl rfl (LT.of_quiet rfl rfl (q_load_boxAgg 0 Tryd.underlying27 rfl inf27 rfl rfl rfl) ?_)
  have hk63 := fun (w1 : World) (hI : Inv w [oI z4 27 (cC J L kJ kL), dI 54 4 3 J kJ, dI 54 4 3 L kL, oI z3 27 (cC M N kM kN), dI 54 4 3 M kM, dI 54 4 3 N kN, oI b5 25 (dC X kX), oI b6 27 (cC A G kA kG), oI b7 27 (cC B H kB kH), oI b8 27 (cC C K kC kK), dI 54 4 3 X kX, dI 54 4 3 A kA, dI 54 4 3 G kG, dI 54 4 3 B kB, dI 54 4 3 H kH, dI 54 4 3 C kC, dI 54 4 3 K kK, oI z2 40 [(.int .i64 a1.vars), (.int .i64 a1.start), (.slice j1.nb a1.next.length j1.nc), (.slice j1.fb a1.final.length j1.fc), (.int .i64 g1.vars), (.int .i64 g1.start), (.slice k1.nb g1.next.length k1.nc), (.slice k1.fb g1.final.length k1.fc), (.int .i64 a2.vars), (.int .i64 a2.start), (.slice j2.nb a2.next.length j2.nc), (.slice j2.fb a2.final.length j2.fc), (.int .i64 g2.vars), (.int .i64 g2.start), (.slice k2.nb g2.next.length k2.nc), (.slice k2.fb g2.final.length k2.fc), (.int .i64 a3.vars), (.int .i64 a3.start), (.slice j3.nb a3.next.length j3.nc), (.slice j3.fb a3.final.length j3.fc), (.int .i64 g3.vars), (.int .i64 g3.start), (.slice k3.nb g3.next.length k3.nc), (.slice k3.fb g3.final.length k3.fc)], oI z1 25 (dC d jd)] w1) => (haveI := Inv.tab (P := Tryd.prog) hI; refZ w1 h.hz h.b h.h h.j h.l kB kH kJ kL (hI.at (k := kB) (List.mem_of_getElem? (i := 13) rfl)) (hI.at (k := kH) (List.mem_of_getElem? (i := 14) rfl)) (hI.at (k := kJ) (List.mem_of_getElem? (i := 1) rfl)) (hI.at (k := kL) (List.mem_of_getElem? (i := 2) rfl)) h.rj2)
  refine TO.guarded rfl rfl rfl (l_call ent19 (CallT.of_pure hk63) rfl ?_)
  clear hk63
  rintro vr O' ⟨N, rfl, rfl, rfl⟩
  refine TO.guarded rfl rfl rfl (LT.of_quiet rfl rfl (q_not rfl) ?_)
  refine TO.quiet (q_pick0 rfl rfl) ?_
  refine TO.nil ?_
  refine T.cond0 rfl ?_
  refine T.skip ?_
  refine T.cut (fun ρ O => Sub [oI z4 27 (cC J L kJ kL), dI 54 4 3 J kJ, dI 54 4 3 L kL, oI z3 27 (cC M N kM kN), dI 54 4 3 M kM, dI 54 4 3 N kN, oI b5 25 (dC X kX), oI b6 27 (cC A G kA kG), oI b7 27 (cC B H kB kH), oI b8 27 (cC C K kC kK), dI 54 4 3 X kX, dI 54 4 3 A kA, dI 54 4 3 G kG, dI 54 4 3 B kB, dI 54 4 3 H kH, dI 54 4 3 C kC, dI 54 4 3 K kK, oI z2 40 [(.int .i64 a1.vars), (.int .i64 a1.start), (.slice j1.nb a1.next.length j1.nc), (.slice j1.fb a1.final.length j1.fc), (.int .i64 g1.vars), (.int .i64 g1.start), (.slice k1.nb g1.next.length k1.nc), (.slice k1.fb g1.final.length k1.fc), (.int .i64 a2.vars), (.int .i64 a2.start), (.slice j2.nb a2.next.length j2.nc), (.slice j2.fb a2.final.length j2.fc), (.int .i64 g2.vars), (.int .i64 g2.start), (.slice k2.nb g2.next.length k2.nc), (.slice k2.fb g2.final.length k2.fc), (.int .i64 a3.vars), (.int .i64 a3.start), (.slice j3.nb a3.next.length j3.nc), (.slice j3.fb a3.final.length j3.fc), (.int .i64 g3.vars), (.int .i64 g3.start), (.slice k3.nb g3.next.length k3.nc), (.slice k3.fb g3.final.length k3.fc)], oI z1 25 (dC d jd)] O ∧ Heads [(0, (dV d jd)), (1, (.agg #[(.int .i64 a1.vars), (.int .i64 a1.start), (.slice j1.nb a1.next.length j1.nc), (.slice j1.fb a1.final.length j1.fc), (.int .i64 g1.vars), (.int .i64 g1.start), (.slice k1.nb g1.next.length k1.nc), (.slice k1.fb g1.final.length k1.fc), (.int .i64 a2.vars), (.int .i64 a2.start), (.slice j2.nb a2.next.length j2.nc), (.slice j2.fb a2.final.length j2.fc), (.int .i64 g2.vars), (.int .i64 g2.start), (.slice k2.nb g2.next.length k2.nc), (.slice k2.fb g2.final.length k2.fc), (.int .i64 a3.vars), (.int .i64 a3.start), (.slice j3.nb a3.next.length j3.nc), (.slice j3.fb a3.final.length j3.fc), (.int .i64 g3.vars), (.int .i64 g3.start), (.slice k3.nb g3.next.length k3.nc), (.slice k3.fb g3.final.length k3.fc)])), (2, (.pointer (some ⟨z1, 0, none⟩))), (3, (.pointer (some ⟨z2, 0, none⟩))), (5, (.pointer (some ⟨b5, 0, none⟩))), (6, (.pointer (some ⟨b6, 0, none⟩))), (7, (.pointer (some ⟨b7, 0, none⟩))), (8, (.pointer (some ⟨b8, 0, none⟩))), (9, (.pointer (some ⟨z3, 0, none⟩))), (10, .int .i64 0), (11, (.pointer (some ⟨z4, 0, none⟩))), (12, .int .i64 0)] ρ) ?_ ?_
  · refine T.seq ?_
    refine T.draws [oI z3 27 (cC M N kM kN), oI b5 25 (dC X kX), oI b6 27 (cC A G kA kG), oI b7 27 (cC B H kB kH)] [(0, 0), (1, 0), (3, 0), (4, 0), (2, 1), (5, 1), (6, 0), (7, 0), (8, 0), (9, 2), (10, 2), (11, 2)] mixed (drawF_ok (by kernel_rfl)) (by exact Sub.d (.d (.d (.k (.d (.d (.k (.k (.k .z))))))))) (fun _ _ _ h => h) ?_
    refine DO.quiet rfl (q_load_boxAgg 1 Tryd.underlying25 rfl inf25 rfl rfl rfl) (DO.quiet rfl (q_load_boxAgg 0 Tryd.underlying27 rfl inf27 rfl rfl rfl) (DO.quiet rfl (q_load_boxAgg 1 Tryd.underlying25 rfl inf25 rfl rfl rfl) (DO.quiet rfl (q_load_boxAgg 2 Tryd.underlying27 rfl inf27 rfl rfl rfl) ?_)))
    have hk68 := fun (w1 : World) (hI : Inv w [oI z4 27 (cC J L kJ kL), dI 54 4 3 J kJ, dI 54 4 3 L kL, oI z3 27 (cC M N kM kN), dI 54 4 3 M kM, dI 54 4 3 N kN, oI b5 25 (dC X kX), oI b6 27 (cC A G kA kG), oI b7 27 (cC B H kB kH), oI b8 27 (cC C K kC kK), dI 54 4 3 X kX, dI 54 4 3 A kA, dI 54 4 3 G kG, dI 54 4 3 B kB, dI 54 4 3 H kH, dI 54 4 3 C kC, dI 54 4 3 K kK, oI z2 40 [(.int .i64 a1.vars), (.int .i64 a1.start), (.slice j1.nb a1.next.length j1.nc), (.slice j1.fb a1.final.length j1.fc), (.int .i64 g1.vars), (.int .i64 g1.start), (.slice k1.nb g1.next.length k1.nc), (.slice k1.fb g1.final.length k1.fc), (.int .i64 a2.vars), (.int .i64 a2.start), (.slice j2.nb a2.next.length j2.nc), (.slice j2.fb a2.final.length j2.fc), (.int .i64 g2.vars), (.int .i64 g2.start), (.slice k2.nb g2.next.length k2.nc), (.slice k2.fb g2.final.length k2.fc), (.int .i64 a3.vars), (.int .i64 a3.start), (.slice j3.nb a3.next.length j3.nc), (.slice j3.fb a3.final.length j3.fc), (.int .i64 g3.vars), (.int .i64 g3.start), (.slice k3.nb g3.next.length k3.nc), (.slice k3.fb g3.final.length k3.fc)], oI z1 25 (dC d jd)] w1) => (haveI := Inv.tab (P := Tryd.prog) hI; implZ w1 h.hz h.x h.m h.n kX kM kN (hI.at (k := kX) (List.mem_of_getElem? (i := 10) rfl)) (hI.at (k := kM) (List.mem_of_getElem? (i := 4) rfl)) (hI.at (k := kN) (List.mem_of_getElem? (i := 5) rfl)) h.exm)
    refine DO.loud rfl rfl (l_call ent22 (CallT.of_pure hk68) rfl ?_)
    clear hk68
    rintro vr O' ⟨N, rfl, rfl, rfl⟩
    refine ⟨by exact Sub.d (.d (.d (.k (.d (.d (.k (.k (.k .z)))))))), ?_⟩
    have hk71 := fun (w1 : World) (hI : Inv w [oI z4 27 (cC J L kJ kL), dI 54 4 3 J kJ, dI 54 4 3 L kL, oI z3 27 (cC M N kM kN), dI 54 4 3 M kM, dI 54 4 3 N kN, oI b5 25 (dC X kX), oI b6 27 (cC A G kA kG), oI b7 27 (cC B H kB kH), oI b8 27 (cC C K kC kK), dI 54 4 3 X kX, dI 54 4 3 A kA, dI 54 4 3 G kG, dI 54 4 3 B kB, dI 54 4 3 H kH, dI 54 4 3 C kC, dI 54 4 3 K kK, oI z2 40 [(.int .i64 a1.vars), (.int .i64 a1.start), (.slice j1.nb a1.next.length j1.nc), (.slice j1.fb a1.final.length j1.fc), (.int .i64 g1.vars), (.int .i64 g1.start), (.slice k1.nb g1.next.length k1.nc), (.slice k1.fb g1.final.length k1.fc), (.int .i64 a2.vars), (.int .i64 a2.start), (.slice j2.nb a2.next.length j2.nc), (.slice j2.fb a2.final.length j2.fc), (.int .i64 g2.vars), (.int .i64 g2.start), (.slice k2.nb g2.next.length k2.nc), (.slice k2.fb g2.final.length k2.fc), (.int .i64 a3.vars), (.int .i64 a3.start), (.slice j3.nb a3.next.length j3.nc), (.slice j3.fb a3.final.length j3.fc), (.int .i64 g3.vars), (.int .i64 g3.start), (.slice k3.nb g3.next.length k3.nc), (.slice k3.fb g3.final.length k3.fc)], oI z1 25 (dC d jd)] w1) => (haveI := Inv.tab (P := Tryd.prog) hI; implZ w1 h.hz h.x h.a h.g kX kA kG (hI.at (k := kX) (List.mem_of_getElem? (i := 10) rfl)) (hI.at (k := kA) (List.mem_of_getElem? (i := 11) rfl)) (hI.at (k := kG) (List.mem_of_getElem? (i := 12) rfl)) h.ex1)
    refine DO.loud rfl rfl (l_call ent22 (CallT.of_pure hk71) rfl ?_)
    clear hk71
    rintro vr O' ⟨N, rfl, rfl, rfl⟩
    refine ⟨by exact Sub.d (.d (.d (.k (.d (.d (.k (.k (.k .z)))))))), ?_⟩
    by_cases hs72 : x1 = true
    · refine DO.quiet rfl (QT.toB (q_move rfl) (hs72)) ?_
      refine DO.guarded rfl rfl rfl (q_load_boxAgg 1 Tryd.underlying25 rfl inf25 rfl rfl rfl) ?_
      refine DO.guarded rfl rfl rfl (q_load_boxAgg 3 Tryd.underlying27 rfl inf27 rfl rfl rfl) ?_
      have hk75 := fun (w1 : World) (hI : Inv w [oI z4 27 (cC J L kJ kL), dI 54 4 3 J kJ, dI 54 4 3 L kL, oI z3 27 (cC M N kM kN), dI 54 4 3 M kM, dI 54 4 3 N kN, oI b5 25 (dC X kX), oI b6 27 (cC A G kA kG), oI b7 27 (cC B H kB kH), oI b8 27 (cC C K kC kK), dI 54 4 3 X kX, dI 54 4 3 A kA, dI 54 4 3 G kG, dI 54 4 3 B kB, dI 54 4 3 H kH, dI 54 4 3 C kC, dI 54 4 3 K kK, oI z2 40 [(.int .i64 a1.vars), (.int .i64 a1.start), (.slice j1.nb a1.next.length j1.nc), (.slice j1.fb a1.final.length j1.fc), (.int .i64 g1.vars), (.int .i64 g1.start), (.slice k1.nb g1.next.length k1.nc), (.slice k1.fb g1.final.length k1.fc), (.int .i64 a2.vars), (.int .i64 a2.start), (.slice j2.nb a2.next.length j2.nc), (.slice j2.fb a2.final.length j2.fc), (.int .i64 g2.vars), (.int .i64 g2.start), (.slice k2.nb g2.next.length k2.nc), (.slice k2.fb g2.final.length k2.fc), (.int .i64 a3.vars), (.int .i64 a3.start), (.slice j3.nb a3.next.length j3.nc), (.slice j3.fb a3.final.length j3.fc), (.int .i64 g3.vars), (.int .i64 g3.start), (.slice k3.nb g3.next.length k3.nc), (.slice k3.fb g3.final.length k3.fc)], oI z1 25 (dC d jd)] w1) => (haveI := Inv.tab (P := Tryd.prog) hI; implZ w1 h.hz h.x h.b h.h kX kB kH (hI.at (k := kX) (List.mem_of_getElem? (i := 10) rfl)) (hI.at (k := kB) (List.mem_of_getElem? (i := 13) rfl)) (hI.at (k := kH) (List.mem_of_getElem? (i := 14) rfl)) h.ex2)
      refine DO.lastG rfl rfl rfl rfl (l_call ent22 (CallT.of_pure hk75) rfl ?_)
      clear hk75
      rintro vr O' ⟨N, rfl, rfl, rfl⟩
      refine DO.last rfl rfl (LT.of_quiet rfl rfl (q_pick1 rfl rfl) ?_)
      refine DO.last rfl rfl (LT.of_quiet rfl rfl (QT.cast (q_bneq Tryd.underlying4 rfl rfl) (v' := .bool false) (by have h1 := h.f1; have h2 := h.f2; have h3 := h.f3; simp_all)) ?_)
      refine DO.done ?_
      refine T.cond0 rfl ?_
      refine T.skip ?_
      exact ⟨(by exact Sub.rf), ⟨rfl, rfl, rfl, rfl, rfl, rfl, rfl, rfl, rfl, rfl, rfl, rfl, trivial⟩⟩
    refine DO.quiet rfl (QT.toB (q_move rfl) (Bool.eq_false_iff.2 hs72)) ?_
    refine DO.passed rfl rfl rfl ?_
    refine DO.passed rfl rfl rfl ?_
    refine DO.passedL (by decide) rfl rfl rfl rfl rfl ?_
    refine DO.last rfl rfl (LT.of_quiet rfl rfl (q_pick0 rfl rfl) ?_)
    refine DO.last rfl rfl (LT.of_quiet rfl rfl (QT.cast (q_bneq Tryd.underlying4 rfl rfl) (v' := .bool false) (by have h1 := h.f1; have h2 := h.f2; have h3 := h.f3; simp_all)) ?_)
    refine DO.done ?_
    refine T.cond0 rfl ?_
    refine T.skip ?_
    exact ⟨(by exact Sub.rf), ⟨rfl, rfl, rfl, rfl, rfl, rfl, rfl, rfl, rfl, rfl, rfl, rfl, trivial⟩⟩
  rintro ρ O ⟨hS, hH⟩
  obtain ⟨ρ0, rfl⟩ := hH.elim
  clear hH
  refine T.sub hS ?_
  refine T.seq ?_
  refine T.draws [oI z4 27 (cC J L kJ kL), oI z3 27 (cC M N kM kN), oI b6 27 (cC A G kA kG), oI b7 27 (cC B H kB kH), oI b8 27 (cC C K kC kK)] [(0, 0), (1, 0), (3, 0), (4, 0), (2, 1), (5, 1), (6, 0), (7, 0), (8, 0), (9, 1), (10, 0), (11, 0), (12, 0), (13, 0), (14, 0), (16, 0), (17, 0), (15, 1), (18, 1), (19, 0), (20, 0), (21, 0), (22, 2), (23, 2), (24, 2), (25, 2), (26, 2), (27, 2), (28, 2), (29, 2)] mixed (drawF_ok (by kernel_rfl)) (by exact Sub.k (.d (.d (.k (.d (.d (.d (.k (.k (.k .z)))))))))) (fun _ _ _ h => h) ?_
  refine DO.quiet rfl (q_load_boxAgg 4 Tryd.underlying27 rfl inf27 rfl rfl rfl) (DO.quiet rfl (q_load_boxAgg 1 Tryd.underlying27 rfl inf27 rfl rfl rfl) (DO.quiet rfl (q_load_boxAgg 4 Tryd.underlying27 rfl inf27 rfl rfl rfl) (DO.quiet rfl (q_load_boxAgg 2 Tryd.underlying27 rfl inf27 rfl rfl rfl) ?_)))
  have hk80 := fun (w1 : World) (hI : Inv w [oI z4 27 (cC J L kJ kL), dI 54 4 3 J kJ, dI 54 4 3 L kL, oI z3 27 (cC M N kM kN), dI 54 4 3 M kM, dI 54 4 3 N kN, oI b5 25 (dC X kX), oI b6 27 (cC A G kA kG), oI b7 27 (cC B H kB kH), oI b8 27 (cC C K kC kK), dI 54 4 3 X kX, dI 54 4 3 A kA, dI 54 4 3 G kG, dI 54 4 3 B kB, dI 54 4 3 H kH, dI 54 4 3 C kC, dI 54 4 3 K kK, oI z2 40 [(.int .i64 a1.vars), (.int .i64 a1.start), (.slice j1.nb a1.next.length j1.nc), (.slice j1.fb a1.final.length j1.fc), (.int .i64 g1.vars), (.int .i64 g1.start), (.slice k1.nb g1.next.length k1.nc), (.slice k1.fb g1.final.length k1.fc), (.int .i64 a2.vars), (.int .i64 a2.start), (.slice j2.nb a2.next.length j2.nc), (.slice j2.fb a2.final.length j2.fc), (.int .i64 g2.vars), (.int .i64 g2.start), (.slice k2.nb g2.next.length k2.nc), (.slice k2.fb g2.final.length k2.fc), (.int .i64 a3.vars), (.int .i64 a3.start), (.slice j3.nb a3.next.length j3.nc), (.slice j3.fb a3.final.length j3.fc), (.int .i64 g3.vars), (.int .i64 g3.start), (.slice k3.nb g3.next.length k3.nc), (.slice k3.fb g3.final.length k3.fc)], oI z1 25 (dC d jd)] w1) => (haveI := Inv.tab (P := Tryd.prog) hI; refZ w1 h.hz h.c h.k h.m h.n kC kK kM kN (hI.at (k := kC) (List.mem_of_getElem? (i := 15) rfl)) (hI.at (k := kK) (List.mem_of_getElem? (i := 16) rfl)) (hI.at (k := kM) (List.mem_of_getElem? (i := 4) rfl)) (hI.at (k := kN) (List.mem_of_getElem? (i := 5) rfl)) h.ecm)
  refine DO.loud rfl rfl (l_call ent19 (CallT.of_pure hk80) rfl ?_)
  clear hk80
  rintro vr O' ⟨N, rfl, rfl, rfl⟩
  refine ⟨by exact Sub.k (.d (.d (.k (.d (.d (.d (.k (.k (.k .z))))))))), ?_⟩
  have hk83 := fun (w1 : World) (hI : Inv w [oI z4 27 (cC J L kJ kL), dI 54 4 3 J kJ, dI 54 4 3 L kL, oI z3 27 (cC M N kM kN), dI 54 4 3 M kM, dI 54 4 3 N kN, oI b5 25 (dC X kX), oI b6 27 (cC A G kA kG), oI b7 27 (cC B H kB kH), oI b8 27 (cC C K kC kK), dI 54 4 3 X kX, dI 54 4 3 A kA, dI 54 4 3 G kG, dI 54 4 3 B kB, dI 54 4 3 H kH, dI 54 4 3 C kC, dI 54 4 3 K kK, oI z2 40 [(.int .i64 a1.vars), (.int .i64 a1.start), (.slice j1.nb a1.next.length j1.nc), (.slice j1.fb a1.final.length j1.fc), (.int .i64 g1.vars), (.int .i64 g1.start), (.slice k1.nb g1.next.length k1.nc), (.slice k1.fb g1.final.length k1.fc), (.int .i64 a2.vars), (.int .i64 a2.start), (.slice j2.nb a2.next.length j2.nc), (.slice j2.fb a2.final.length j2.fc), (.int .i64 g2.vars), (.int .i64 g2.start), (.slice k2.nb g2.next.length k2.nc), (.slice k2.fb g2.final.length k2.fc), (.int .i64 a3.vars), (.int .i64 a3.start), (.slice j3.nb a3.next.length j3.nc), (.slice j3.fb a3.final.length j3.fc), (.int .i64 g3.vars), (.int .i64 g3.start), (.slice k3.nb g3.next.length k3.nc), (.slice k3.fb g3.final.length k3.fc)], oI z1 25 (dC d jd)] w1) => (haveI := Inv.tab (P := Tryd.prog) hI; refZ w1 h.hz h.c h.k h.a h.g kC kK kA kG (hI.at (k := kC) (List.mem_of_getElem? (i := 15) rfl)) (hI.at (k := kK) (List.mem_of_getElem? (i := 16) rfl)) (hI.at (k := kA) (List.mem_of_getElem? (i := 11) rfl)) (hI.at (k := kG) (List.mem_of_getElem? (i := 12) rfl)) h.ec1)
  refine DO.loud rfl rfl (l_call ent19 (CallT.of_pure hk83) rfl ?_)
  clear hk83
  rintro vr O' ⟨N, rfl, rfl, rfl⟩
  refine ⟨by exact Sub.k (.d (.d (.k (.d (.d (.d (.k (.k (.k .z))))))))), ?_⟩
  by_cases hs84 : c1 = true
  · refine DO.quiet rfl (QT.toB (q_move rfl) (hs84)) ?_
    refine DO.guarded rfl rfl rfl (q_load_boxAgg 4 Tryd.underlying27 rfl inf27 rfl rfl rfl) ?_
    refine DO.guarded rfl rfl rfl (q_load_boxAgg 3 Tryd.underlying27 rfl inf27 rfl rfl rfl) ?_
    have hk87 := fun (w1 : World) (hI : Inv w [oI z4 27 (cC J L kJ kL), dI 54 4 3 J kJ, dI 54 4 3 L kL, oI z3 27 (cC M N kM kN), dI 54 4 3 M kM, dI 54 4 3 N kN, oI b5 25 (dC X kX), oI b6 27 (cC A G kA kG), oI b7 27 (cC B H kB kH), oI b8 27 (cC C K kC kK), dI 54 4 3 X kX, dI 54 4 3 A kA, dI 54 4 3 G kG, dI 54 4 3 B kB, dI 54 4 3 H kH, dI 54 4 3 C kC, dI 54 4 3 K kK, oI z2 40 [(.int .i64 a1.vars), (.int .i64 a1.start), (.slice j1.nb a1.next.length j1.nc), (.slice j1.fb a1.final.length j1.fc), (.int .i64 g1.vars), (.int .i64 g1.start), (.slice k1.nb g1.next.length k1.nc), (.slice k1.fb g1.final.length k1.fc), (.int .i64 a2.vars), (.int .i64 a2.start), (.slice j2.nb a2.next.length j2.nc), (.slice j2.fb a2.final.length j2.fc), (.int .i64 g2.vars), (.int .i64 g2.start), (.slice k2.nb g2.next.length k2.nc), (.slice k2.fb g2.final.length k2.fc), (.int .i64 a3.vars), (.int .i64 a3.start), (.slice j3.nb a3.next.length j3.nc), (.slice j3.fb a3.final.length j3.fc), (.int .i64 g3.vars), (.int .i64 g3.start), (.slice k3.nb g3.next.length k3.nc), (.slice k3.fb g3.final.length k3.fc)], oI z1 25 (dC d jd)] w1) => (haveI := Inv.tab (P := Tryd.prog) hI; refZ w1 h.hz h.c h.k h.b h.h kC kK kB kH (hI.at (k := kC) (List.mem_of_getElem? (i := 15) rfl)) (hI.at (k := kK) (List.mem_of_getElem? (i := 16) rfl)) (hI.at (k := kB) (List.mem_of_getElem? (i := 13) rfl)) (hI.at (k := kH) (List.mem_of_getElem? (i := 14) rfl)) h.ec2)
    refine DO.loudG rfl rfl rfl rfl (l_call ent19 (CallT.of_pure hk87) rfl ?_)
    clear hk87
    rintro vr O' ⟨N, rfl, rfl, rfl⟩
    refine ⟨by exact Sub.k (.d (.d (.k (.d (.d (.d (.k (.k (.k .z))))))))), ?_⟩
    refine DO.quiet rfl (q_pick1 rfl rfl) (DO.quiet rfl (QT.cast (q_beql Tryd.underlying4 rfl rfl) (v' := .bool true) (by have h1 := h.f1; have h2 := h.f2; have h3 := h.f3; simp_all)) (DO.quiet rfl (q_move rfl) ?_))
    refine DO.guarded rfl rfl rfl (q_load_boxAgg 0 Tryd.underlying27 rfl inf27 rfl rfl rfl) ?_
    refine DO.guarded rfl rfl rfl (q_load_boxAgg 4 Tryd.underlying27 rfl inf27 rfl rfl rfl) ?_
    refine DO.guarded rfl rfl rfl (q_load_boxAgg 2 Tryd.underlying27 rfl inf27 rfl rfl rfl) ?_
    refine DO.guarded rfl rfl rfl (q_load_boxAgg 4 Tryd.underlying27 rfl inf27 rfl rfl rfl) ?_
    have hk93 := fun (w1 : World) (hI : Inv w [oI z4 27 (cC J L kJ kL), dI 54 4 3 J kJ, dI 54 4 3 L kL, oI z3 27 (cC M N kM kN), dI 54 4 3 M kM, dI 54 4 3 N kN, oI b5 25 (dC X kX), oI b6 27 (cC A G kA kG), oI b7 27 (cC B H kB kH), oI b8 27 (cC C K kC kK), dI 54 4 3 X kX, dI 54 4 3 A kA, dI 54 4 3 G kG, dI 54 4 3 B kB, dI 54 4 3 H kH, dI 54 4 3 C kC, dI 54 4 3 K kK, oI z2 40 [(.int .i64 a1.vars), (.int .i64 a1.start), (.slice j1.nb a1.next.length j1.nc), (.slice j1.fb a1.final.length j1.fc), (.int .i64 g1.vars), (.int .i64 g1.start), (.slice k1.nb g1.next.length k1.nc), (.slice k1.fb g1.final.length k1.fc), (.int .i64 a2.vars), (.int .i64 a2.start), (.slice j2.nb a2.next.length j2.nc), (.slice j2.fb a2.final.length j2.fc), (.int .i64 g2.vars), (.int .i64 g2.start), (.slice k2.nb g2.next.length k2.nc), (.slice k2.fb g2.final.length k2.fc), (.int .i64 a3.vars), (.int .i64 a3.start), (.slice j3.nb a3.next.length j3.nc), (.slice j3.fb a3.final.length j3.fc), (.int .i64 g3.vars), (.int .i64 g3.start), (.slice k3.nb g3.next.length k3.nc), (.slice k3.fb g3.final.length k3.fc)], oI z1 25 (dC d jd)] w1) => (haveI := Inv.tab (P := Tryd.prog) hI; refZ w1 h.hz h.j h.l h.c h.k kJ kL kC kK (hI.at (k := kJ) (List.mem_of_getElem? (i := 1) rfl)) (hI.at (k := kL) (List.mem_of_getElem? (i := 2) rfl)) (hI.at (k := kC) (List.mem_of_getElem? (i := 15) rfl)) (hI.at (k := kK) (List.mem_of_getElem? (i := 16) rfl)) h.ejc)
    refine DO.loudG rfl rfl rfl rfl (l_call ent19 (CallT.of_pure hk93) rfl ?_)
    clear hk93
    rintro vr O' ⟨N, rfl, rfl, rfl⟩
    refine ⟨by exact Sub.k (.d (.d (.k (.d (.d (.d (.k (.k (.k .z))))))))), ?_⟩
    have hk96 := fun (w1 : World) (hI : Inv w [oI z4 27 (cC J L kJ kL), dI 54 4 3 J kJ, dI 54 4 3 L kL, oI z3 27 (cC M N kM kN), dI 54 4 3 M kM, dI 54 4 3 N kN, oI b5 25 (dC X kX), oI b6 27 (cC A G kA kG), oI b7 27 (cC B H kB kH), oI b8 27 (cC C K kC kK), dI 54 4 3 X kX, dI 54 4 3 A kA, dI 54 4 3 G kG, dI 54 4 3 B kB, dI 54 4 3 H kH, dI 54 4 3 C kC, dI 54 4 3 K kK, oI z2 40 [(.int .i64 a1.vars), (.int .i64 a1.start), (.slice j1.nb a1.next.length j1.nc), (.slice j1.fb a1.final.length j1.fc), (.int .i64 g1.vars), (.int .i64 g1.start), (.slice k1.nb g1.next.length k1.nc), (.slice k1.fb g1.final.length k1.fc), (.int .i64 a2.vars), (.int .i64 a2.start), (.slice j2.nb a2.next.length j2.nc), (.slice j2.fb a2.final.length j2.fc), (.int .i64 g2.vars), (.int .i64 g2.start), (.slice k2.nb g2.next.length k2.nc), (.slice k2.fb g2.final.length k2.fc), (.int .i64 a3.vars), (.int .i64 a3.start), (.slice j3.nb a3.next.length j3.nc), (.slice j3.fb a3.final.length j3.fc), (.int .i64 g3.vars), (.int .i64 g3.start), (.slice k3.nb g3.next.length k3.nc), (.slice k3.fb g3.final.length k3.fc)], oI z1 25 (dC d jd)] w1) => (haveI := Inv.tab (P := Tryd.prog) hI; refZ w1 h.hz h.a h.g h.c h.k kA kG kC kK (hI.at (k := kA) (List.mem_of_getElem? (i := 11) rfl)) (hI.at (k := kG) (List.mem_of_getElem? (i := 12) rfl)) (hI.at (k := kC) (List.mem_of_getElem? (i := 15) rfl)) (hI.at (k := kK) (List.mem_of_getElem? (i := 16) rfl)) h.ej1)
    refine DO.loudG rfl rfl rfl rfl (l_call ent19 (CallT.of_pure hk96) rfl ?_)
    clear hk96
    rintro vr O' ⟨N, rfl, rfl, rfl⟩
    refine ⟨by exact Sub.k (.d (.d (.k (.d (.d (.d (.k (.k (.k .z))))))))), ?_⟩
    by_cases hs97 : b1 = true
    · refine DO.guarded rfl rfl rfl (QT.toB (q_move rfl) (hs97)) ?_
      refine DO.guarded rfl rfl rfl (q_load_boxAgg 3 Tryd.underlying27 rfl inf27 rfl rfl rfl) ?_
      refine DO.guarded rfl rfl rfl (q_load_boxAgg 4 Tryd.underlying27 rfl inf27 rfl rfl rfl) ?_
      have hk100 := fun (w1 : World) (hI : Inv w [oI z4 27 (cC J L kJ kL), dI 54 4 3 J kJ, dI 54 4 3 L kL, oI z3 27 (cC M N kM kN), dI 54 4 3 M kM, dI 54 4 3 N kN, oI b5 25 (dC X kX), oI b6 27 (cC A G kA kG), oI b7 27 (cC B H kB kH), oI b8 27 (cC C K kC kK), dI 54 4 3 X kX, dI 54 4 3 A kA, dI 54 4 3 G kG, dI 54 4 3 B kB, dI 54 4 3 H kH, dI 54 4 3 C kC, dI 54 4 3 K kK, oI z2 40 [(.int .i64 a1.vars), (.int .i64 a1.start), (.slice j1.nb a1.next.length j1.nc), (.slice j1.fb a1.final.length j1.fc), (.int .i64 g1.vars), (.int .i64 g1.start), (.slice k1.nb g1.next.length k1.nc), (.slice k1.fb g1.final.length k1.fc), (.int .i64 a2.vars), (.int .i64 a2.start), (.slice j2.nb a2.next.length j2.nc), (.slice j2.fb a2.final.length j2.fc), (.int .i64 g2.vars), (.int .i64 g2.start), (.slice k2.nb g2.next.length k2.nc), (.slice k2.fb g2.final.length k2.fc), (.int .i64 a3.vars), (.int .i64 a3.start), (.slice j3.nb a3.next.length j3.nc), (.slice j3.fb a3.final.length j3.fc), (.int .i64 g3.vars), (.int .i64 g3.start), (.slice k3.nb g3.next.length k3.nc), (.slice k3.fb g3.final.length k3.fc)], oI z1 25 (dC d jd)] w1) => (haveI := Inv.tab (P := Tryd.prog) hI; refZ w1 h.hz h.b h.h h.c h.k kB kH kC kK (hI.at (k := kB) (List.mem_of_getElem? (i := 13) rfl)) (hI.at (k := kH) (List.mem_of_getElem? (i := 14) rfl)) (hI.at (k := kC) (List.mem_of_getElem? (i := 15) rfl)) (hI.at (k := kK) (List.mem_of_getElem? (i := 16) rfl)) h.ej2)
      refine DO.lastG rfl rfl rfl rfl (l_call ent19 (CallT.of_pure hk100) rfl ?_)
      clear hk100
      rintro vr O' ⟨N, rfl, rfl, rfl⟩
      refine DO.lastG rfl rfl rfl rfl (LT.of_quiet rfl rfl (q_pick1 rfl rfl) ?_)
      refine DO.lastG rfl rfl rfl rfl (LT.of_quiet rfl rfl (QT.cast (q_beql Tryd.underlying4 rfl rfl) (v' := .bool true) (by have h1 := h.f1; have h2 := h.f2; have h3 := h.f3; simp_all)) ?_)
      refine DO.last rfl rfl (LT.of_quiet rfl rfl (q_pick1 rfl rfl) ?_)
      refine DO.last rfl rfl (LT.of_quiet rfl rfl (q_move rfl) ?_)
      have hk105 := fun (w1 : World) (hI : Inv w [oI z4 27 (cC J L kJ kL), dI 54 4 3 J kJ, dI 54 4 3 L kL, oI z3 27 (cC M N kM kN), dI 54 4 3 M kM, dI 54 4 3 N kN, oI b5 25 (dC X kX), oI b6 27 (cC A G kA kG), oI b7 27 (cC B H kB kH), oI b8 27 (cC C K kC kK), dI 54 4 3 X kX, dI 54 4 3 A kA, dI 54 4 3 G kG, dI 54 4 3 B kB, dI 54 4 3 H kH, dI 54 4 3 C kC, dI 54 4 3 K kK, oI z2 40 [(.int .i64 a1.vars), (.int .i64 a1.start), (.slice j1.nb a1.next.length j1.nc), (.slice j1.fb a1.final.length j1.fc), (.int .i64 g1.vars), (.int .i64 g1.start), (.slice k1.nb g1.next.length k1.nc), (.slice k1.fb g1.final.length k1.fc), (.int .i64 a2.vars), (.int .i64 a2.start), (.slice j2.nb a2.next.length j2.nc), (.slice j2.fb a2.final.length j2.fc), (.int .i64 g2.vars), (.int .i64 g2.start), (.slice k2.nb g2.next.length k2.nc), (.slice k2.fb g2.final.length k2.fc), (.int .i64 a3.vars), (.int .i64 a3.start), (.slice j3.nb a3.next.length j3.nc), (.slice j3.fb a3.final.length j3.fc), (.int .i64 g3.vars), (.int .i64 g3.start), (.slice k3.nb g3.next.length k3.nc), (.slice k3.fb g3.final.length k3.fc)], oI z1 25 (dC d jd)] w1) => (haveI := Inv.tab (P := Tryd.prog) hI; awakeC w1)
      refine DO.lastG rfl rfl rfl rfl (l_call ent15 (CallT.of_pure hk105) rfl ?_)
      clear hk105
      rintro vr O' ⟨N, rfl, rfl, rfl⟩
      refine DO.last rfl rfl (LT.of_quiet rfl rfl (q_pick1 rfl rfl) ?_)
      refine DO.last rfl rfl (LT.of_quiet rfl rfl (q_assign rfl) ?_)
      refine DO.done ?_
      refine T.ret (Res.drop ?_)
      refine Res.one (.bool true) Tryd.results5 rfl ?_
      exact ⟨[], Sub.z, rfl, rfl⟩
    refine DO.guarded rfl rfl rfl (QT.toB (q_move rfl) (Bool.eq_false_iff.2 hs97)) ?_
    refine DO.passed rfl rfl rfl ?_
    refine DO.passed rfl rfl rfl ?_
    refine DO.passedL (by decide) rfl rfl rfl rfl rfl ?_
    refine DO.lastG rfl rfl rfl rfl (LT.of_quiet rfl rfl (q_pick0 rfl rfl) ?_)
    refine DO.lastG rfl rfl rfl rfl (LT.of_quiet rfl rfl (QT.cast (q_beql Tryd.underlying4 rfl rfl) (v' := .bool true) (by have h1 := h.f1; have h2 := h.f2; have h3 := h.f3; simp_all)) ?_)
    refine DO.last rfl rfl (LT.of_quiet rfl rfl (q_pick1 rfl rfl) ?_)
    refine DO.last rfl rfl (LT.of_quiet rfl rfl (q_move rfl) ?_)
    have hk105 := fun (w1 : World) (hI : Inv w [oI z4 27 (cC J L kJ kL), dI 54 4 3 J kJ, dI 54 4 3 L kL, oI z3 27 (cC M N kM kN), dI 54 4 3 M kM, dI 54 4 3 N kN, oI b5 25 (dC X kX), oI b6 27 (cC A G kA kG), oI b7 27 (cC B H kB kH), oI b8 27 (cC C K kC kK), dI 54 4 3 X kX, dI 54 4 3 A kA, dI 54 4 3 G kG, dI 54 4 3 B kB, dI 54 4 3 H kH, dI 54 4 3 C kC, dI 54 4 3 K kK, oI z2 40 [(.int .i64 a1.vars), (.int .i64 a1.start), (.slice j1.nb a1.next.length j1.nc), (.slice j1.fb a1.final.length j1.fc), (.int .i64 g1.vars), (.int .i64 g1.start), (.slice k1.nb g1.next.length k1.nc), (.slice k1.fb g1.final.length k1.fc), (.int .i64 a2.vars), (.int .i64 a2.start), (.slice j2.nb a2.next.length j2.nc), (.slice j2.fb a2.final.length j2.fc), (.int .i64 g2.vars), (.int .i64 g2.start), (.slice k2.nb g2.next.length k2.nc), (.slice k2.fb g2.final.length k2.fc), (.int .i64 a3.vars), (.int .i64 a3.start), (.slice j3.nb a3.next.length j3.nc), (.slice j3.fb a3.final.length j3.fc), (.int .i64 g3.vars), (.int .i64 g3.start), (.slice k3.nb g3.next.length k3.nc), (.slice k3.fb g3.final.length k3.fc)], oI z1 25 (dC d jd)] w1) => (haveI := Inv.tab (P := Tryd.prog) hI; awakeC w1)
    refine DO.lastG rfl rfl rfl rfl (l_call ent15 (CallT.of_pure hk105) rfl ?_)
    clear hk105
    rintro vr O' ⟨N, rfl, rfl, rfl⟩
    refine DO.last rfl rfl (LT.of_quiet rfl rfl (q_pick1 rfl rfl) ?_)
    refine DO.last rfl rfl (LT.of_quiet rfl rfl (q_assign rfl) ?_)
    refine DO.done ?_
    refine T.ret (Res.drop ?_)
    refine Res.one (.bool true) Tryd.results5 rfl ?_
    exact ⟨[], Sub.z, rfl, rfl⟩
  refine DO.quiet rfl (QT.toB (q_move rfl) (Bool.eq_false_iff.2 hs84)) ?_
  refine DO.passed rfl rfl rfl ?_
  refine DO.passed rfl rfl rfl ?_
  refine DO.passedL (by decide) rfl rfl rfl rfl rfl ?_
  refine DO.quiet rfl (q_pick0 rfl rfl) (DO.quiet rfl (QT.cast (q_beql Tryd.underlying4 rfl rfl) (v' := .bool true) (by have h1 := h.f1; have h2 := h.f2; have h3 := h.f3; simp_all)) (DO.quiet rfl (q_move rfl) ?_))
  refine DO.guarded rfl rfl rfl (q_load_boxAgg 0 Tryd.underlying27 rfl inf27 rfl rfl rfl) ?_
  refine DO.guarded rfl rfl rfl (q_load_boxAgg 4 Tryd.underlying27 rfl inf27 rfl rfl rfl) ?_
  refine DO.guarded rfl rfl rfl (q_load_boxAgg 2 Tryd.underlying27 rfl inf27 rfl rfl rfl) ?_
  refine DO.guarded rfl rfl rfl (q_load_boxAgg 4 Tryd.underlying27 rfl inf27 rfl rfl rfl) ?_
  have hk93 := fun (w1 : World) (hI : Inv w [oI z4 27 (cC J L kJ kL), dI 54 4 3 J kJ, dI 54 4 3 L kL, oI z3 27 (cC M N kM kN), dI 54 4 3 M kM, dI 54 4 3 N kN, oI b5 25 (dC X kX), oI b6 27 (cC A G kA kG), oI b7 27 (cC B H kB kH), oI b8 27 (cC C K kC kK), dI 54 4 3 X kX, dI 54 4 3 A kA, dI 54 4 3 G kG, dI 54 4 3 B kB, dI 54 4 3 H kH, dI 54 4 3 C kC, dI 54 4 3 K kK, oI z2 40 [(.int .i64 a1.vars), (.int .i64 a1.start), (.slice j1.nb a1.next.length j1.nc), (.slice j1.fb a1.final.length j1.fc), (.int .i64 g1.vars), (.int .i64 g1.start), (.slice k1.nb g1.next.length k1.nc), (.slice k1.fb g1.final.length k1.fc), (.int .i64 a2.vars), (.int .i64 a2.start), (.slice j2.nb a2.next.length j2.nc), (.slice j2.fb a2.final.length j2.fc), (.int .i64 g2.vars), (.int .i64 g2.start), (.slice k2.nb g2.next.length k2.nc), (.slice k2.fb g2.final.length k2.fc), (.int .i64 a3.vars), (.int .i64 a3.start), (.slice j3.nb a3.next.length j3.nc), (.slice j3.fb a3.final.length j3.fc), (.int .i64 g3.vars), (.int .i64 g3.start), (.slice k3.nb g3.next.length k3.nc), (.slice k3.fb g3.final.length k3.fc)], oI z1 25 (dC d jd)] w1) => (haveI := Inv.tab (P := Tryd.prog) hI; refZ w1 h.hz h.j h.l h.c h.k kJ kL kC kK (hI.at (k := kJ) (List.mem_of_getElem? (i := 1) rfl)) (hI.at (k := kL) (List.mem_of_getElem? (i := 2) rfl)) (hI.at (k := kC) (List.mem_of_getElem? (i := 15) rfl)) (hI.at (k := kK) (List.mem_of_getElem? (i := 16) rfl)) h.ejc)
  refine DO.loudG rfl rfl rfl rfl (l_call ent19 (CallT.of_pure hk93) rfl ?_)
  clear hk93
  rintro vr O' ⟨N, rfl, rfl, rfl⟩
  refine ⟨by exact Sub.k (.d (.d (.k (.d (.d (.d (.k (.k (.k .z))))))))), ?_⟩
  have hk96 := fun (w1 : World) (hI : Inv w [oI z4 27 (cC J L kJ kL), dI 54 4 3 J kJ, dI 54 4 3 L kL, oI z3 27 (cC M N kM kN), dI 54 4 3 M kM, dI 54 4 3 N kN, oI b5 25 (dC X kX), oI b6 27 (cC A G kA kG), oI b7 27 (cC B H kB kH), oI b8 27 (cC C K kC kK), dI 54 4 3 X kX, dI 54 4 3 A kA, dI 54 4 3 G kG, dI 54 4 3 B kB, dI 54 4 3 H kH, dI 54 4 3 C kC, dI 54 4 3 K kK, oI z2 40 [(.int .i64 a1.vars), (.int .i64 a1.start), (.slice j1.nb a1.next.length j1.nc), (.slice j1.fb a1.final.length j1.fc), (.int .i64 g1.vars), (.int .i64 g1.start), (.slice k1.nb g1.next.length k1.nc), (.slice k1.fb g1.final.length k1.fc), (.int .i64 a2.vars), (.int .i64 a2.start), (.slice j2.nb a2.next.length j2.nc), (.slice j2.fb a2.final.length j2.fc), (.int .i64 g2.vars), (.int .i64 g2.start), (.slice k2.nb g2.next.length k2.nc), (.slice k2.fb g2.final.length k2.fc), (.int .i64 a3.vars), (.int .i64 a3.start), (.slice j3.nb a3.next.length j3.nc), (.slice j3.fb a3.final.length j3.fc), (.int .i64 g3.vars), (.int .i64 g3.start), (.slice k3.nb g3.next.length k3.nc), (.slice k3.fb g3.final.length k3.fc)], oI z1 25 (dC d jd)] w1) => (haveI := Inv.tab (P := Tryd.prog) hI; refZ w1 h.hz h.a h.g h.c h.k kA kG kC kK (hI.at (k := kA) (List.mem_of_getElem? (i := 11) rfl)) (hI.at (k := kG) (List.mem_of_getElem? (i := 12) rfl)) (hI.at (k := kC) (List.mem_of_getElem? (i := 15) rfl)) (hI.at (k := kK) (List.mem_of_getElem? (i := 16) rfl)) h.ej1)
  refine DO.loudG rfl rfl rfl rfl (l_call ent19 (CallT.of_pure hk96) rfl ?_)
  clear hk96
  rintro vr O' ⟨N, rfl, rfl, rfl⟩
  refine ⟨by exact Sub.k (.d (.d (.k (.d (.d (.d (.k (.k (.k .z))))))))), ?_⟩
  by_cases hs97 : b1 = true
  · refine DO.guarded rfl rfl rfl (QT.toB (q_move rfl) (hs97)) ?_
    refine DO.guarded rfl rfl rfl (q_load_boxAgg 3 Tryd.underlying27 rfl inf27 rfl rfl rfl) ?_
    refine DO.guarded rfl rfl rfl (q_load_boxAgg 4 Tryd.underlying27 rfl inf27 rfl rfl rfl) ?_
    have hk100 := fun (w1 : World) (hI : Inv w [oI z4 27 (cC J L kJ kL), dI 54 4 3 J kJ, dI 54 4 3 L kL, oI z3 27 (cC M N kM kN), dI 54 4 3 M kM, dI 54 4 3 N kN, oI b5 25 (dC X kX), oI b6 27 (cC A G kA kG), oI b7 27 (cC B H kB kH), oI b8 27 (cC C K kC kK), dI 54 4 3 X kX, dI 54 4 3 A kA, dI 54 4 3 G kG, dI 54 4 3 B kB, dI 54 4 3 H kH, dI 54 4 3 C kC, dI 54 4 3 K kK, oI z2 40 [(.int .i64 a1.vars), (.int .i64 a1.start), (.slice j1.nb a1.next.length j1.nc), (.slice j1.fb a1.final.length j1.fc), (.int .i64 g1.vars), (.int .i64 g1.start), (.slice k1.nb g1.next.length k1.nc), (.slice k1.fb g1.final.length k1.fc), (.int .i64 a2.vars), (.int .i64 a2.start), (.slice j2.nb a2.next.length j2.nc), (.slice j2.fb a2.final.length j2.fc), (.int .i64 g2.vars), (.int .i64 g2.start), (.slice k2.nb g2.next.length k2.nc), (.slice k2.fb g2.final.length k2.fc), (.int .i64 a3.vars), (.int .i64 a3.start), (.slice j3.nb a3.next.length j3.nc), (.slice j3.fb a3.final.length j3.fc), (.int .i64 g3.vars), (.int .i64 g3.start), (.slice k3.nb g3.next.length k3.nc), (.slice k3.fb g3.final.length k3.fc)], oI z1 25 (dC d jd)] w1) => (haveI := Inv.tab (P := Tryd.prog) hI; refZ w1 h.hz h.b h.h h.c h.k kB kH kC kK (hI.at (k := kB) (List.mem_of_getElem? (i := 13) rfl)) (hI.at (k := kH) (List.mem_of_getElem? (i := 14) rfl)) (hI.at (k := kC) (List.mem_of_getElem? (i := 15) rfl)) (hI.at (k := kK) (List.mem_of_getElem? (i := 16) rfl)) h.ej2)
    refine DO.lastG rfl rfl rfl rfl (l_call ent19 (CallT.of_pure hk100) rfl ?_)
    clear hk100
    rintro vr O' ⟨N, rfl, rfl, rfl⟩
    refine DO.lastG rfl rfl rfl rfl (LT.of_quiet rfl rfl (q_pick1 rfl rfl) ?_)
    refine DO.lastG rfl rfl rfl rfl (LT.of_quiet rfl rfl (QT.cast (q_beql Tryd.underlying4 rfl rfl) (v' := .bool true) (by have h1 := h.f1; have h2 := h.f2; have h3 := h.f3; simp_all)) ?_)
    refine DO.last rfl rfl (LT.of_quiet rfl rfl (q_pick1 rfl rfl) ?_)
    refine DO.last rfl rfl (LT.of_quiet rfl rfl (q_move rfl) ?_)
    have hk105 := fun (w1 : World) (hI : Inv w [oI z4 27 (cC J L kJ kL), dI 54 4 3 J kJ, dI 54 4 3 L kL, oI z3 27 (cC M N kM kN), dI 54 4 3 M kM, dI 54 4 3 N kN, oI b5 25 (dC X kX), oI b6 27 (cC A G kA kG), oI b7 27 (cC B H kB kH), oI b8 27 (cC C K kC kK), dI 54 4 3 X kX, dI 54 4 3 A kA, dI 54 4 3 G kG, dI 54 4 3 B kB, dI 54 4 3 H kH, dI 54 4 3 C kC, dI 54 4 3 K kK, oI z2 40 [(.int .i64 a1.vars), (.int .i64 a1.start), (.slice j1.nb a1.next.length j1.nc), (.slice j1.fb a1.final.length j1.fc), (.int .i64 g1.vars), (.int .i64 g1.start), (.slice k1.nb g1.next.length k1.nc), (.slice k1.fb g1.final.length k1.fc), (.int .i64 a2.vars), (.int .i64 a2.start), (.slice j2.nb a2.next.length j2.nc), (.slice j2.fb a2.final.length j2.fc), (.int .i64 g2.vars), (.int .i64 g2.start), (.slice k2.nb g2.next.length k2.nc), (.slice k2.fb g2.final.length k2.fc), (.int .i64 a3.vars), (.int .i64 a3.start), (.slice j3.nb a3.next.length j3.nc), (.slice j3.fb a3.final.length j3.fc), (.int .i64 g3.vars), (.int .i64 g3.start), (.slice k3.nb g3.next.length k3.nc), (.slice k3.fb g3.final.length k3.fc)], oI z1 25 (dC d jd)] w1) => (haveI := Inv.tab (P := Tryd.prog) hI; awakeC w1)
    refine DO.lastG rfl rfl rfl rfl (l_call ent15 (CallT.of_pure hk105) rfl ?_)
    clear hk105
    rintro vr O' ⟨N, rfl, rfl, rfl⟩
    refine DO.last rfl rfl (LT.of_quiet rfl rfl (q_pick1 rfl rfl) ?_)
    refine DO.last rfl rfl (LT.of_quiet rfl rfl (q_assign rfl) ?_)
    refine DO.done ?_
    refine T.ret (Res.drop ?_)
    refine Res.one (.bool true) Tryd.results5 rfl ?_
    exact ⟨[], Sub.z, rfl, rfl⟩
  refine DO.guarded rfl rfl rfl (QT.toB (q_move rfl) (Bool.eq_false_iff.2 hs97)) ?_
  refine DO.passed rfl rfl rfl ?_
  refine DO.passed rfl rfl rfl ?_
  refine DO.passedL (by decide) rfl rfl rfl rfl rfl ?_
  refine DO.lastG rfl rfl rfl rfl (LT.of_quiet rfl rfl (q_pick0 rfl rfl) ?_)
  refine DO.lastG rfl rfl rfl rfl (LT.of_quiet rfl rfl (QT.cast (q_beql Tryd.underlying4 rfl rfl) (v' := .bool true) (by have h1 := h.f1; have h2 := h.f2; have h3 := h.f3; simp_all)) ?_)
  refine DO.last rfl rfl (LT.of_quiet rfl rfl (q_pick1 rfl rfl) ?_)
  refine DO.last rfl rfl (LT.of_quiet rfl rfl (q_move rfl) ?_)
  have hk105 := fun (w1 : World) (hI : Inv w [oI z4 27 (cC J L kJ kL), dI 54 4 3 J kJ, dI 54 4 3 L kL, oI z3 27 (cC M N kM kN), dI 54 4 3 M kM, dI 54 4 3 N kN, oI b5 25 (dC X kX), oI b6 27 (cC A G kA kG), oI b7 27 (cC B H kB kH), oI b8 27 (cC C K kC kK), dI 54 4 3 X kX, dI 54 4 3 A kA, dI 54 4 3 G kG, dI 54 4 3 B kB, dI 54 4 3 H kH, dI 54 4 3 C kC, dI 54 4 3 K kK, oI z2 40 [(.int .i64 a1.vars), (.int .i64 a1.start), (.slice j1.nb a1.next.length j1.nc), (.slice j1.fb a1.final.length j1.fc), (.int .i64 g1.vars), (.int .i64 g1.start), (.slice k1.nb g1.next.length k1.nc), (.slice k1.fb g1.final.length k1.fc), (.int .i64 a2.vars), (.int .i64 a2.start), (.slice j2.nb a2.next.length j2.nc), (.slice j2.fb a2.final.length j2.fc), (.int .i64 g2.vars), (.int .i64 g2.start), (.slice k2.nb g2.next.length k2.nc), (.slice k2.fb g2.final.length k2.fc), (.int .i64 a3.vars), (.int .i64 a3.start), (.slice j3.nb a3.next.length j3.nc), (.slice j3.fb a3.final.length j3.fc), (.int .i64 g3.vars), (.int .i64 g3.start), (.slice k3.nb g3.next.length k3.nc), (.slice k3.fb g3.final.length k3.fc)], oI z1 25 (dC d jd)] w1) => (haveI := Inv.tab (P := Tryd.prog) hI; awakeC w1)
  refine DO.lastG rfl rfl rfl rfl (l_call ent15 (CallT.of_pure hk105) rfl ?_)
  clear hk105
  rintro vr O' ⟨N, rfl, rfl, rfl⟩
  refine DO.last rfl rfl (LT.of_quiet rfl rfl (q_pick1 rfl rfl) ?_)
  refine DO.last rfl rfl (LT.of_quiet rfl rfl (q_assign rfl) ?_)
  refine DO.done ?_
  refine T.ret (Res.drop ?_)
  refine Res.one (.bool true) Tryd.results5 rfl ?_
  exact ⟨[], Sub.z, rfl, rfl⟩
end Go.Proofs.YtnpehjpookcfkaaDoor

