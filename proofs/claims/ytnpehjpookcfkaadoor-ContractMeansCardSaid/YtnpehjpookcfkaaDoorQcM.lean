/- Contracts of functions of the program (QcM): what each call answers and that it leaves memory as it was. Conditions: those each theorem names. -/
import Derived.Test.YtnpehjpookcfkaaDoorCoreM
import Derived.Test.YtnpehjpookcfkaaDoorCt
import Derived.Test.YtnpehjpookcfkaaDoorEndC
set_option linter.unusedSectionVars false
set_option linter.unusedSimpArgs false
set_option linter.unusedVariables false
set_option linter.unnecessarySimpa false
namespace Go.Proofs.YtnpehjpookcfkaaDoor
open Go.Lx Go.RowKit
set_option linter.unusedVariables false
set_option linter.unusedSimpArgs false
theorem implW (w : World) [Tab Tryd.prog w] {z x a g : DFA} {px p q : List Nat → Bool} (hz : Valid z) (hx : InL z x px) (ha : InL z a p) (hg : InL z g q) (i j k : DK) (hi : At w x i) (hj : At w a j) (hk : At w g k) {b : Bool} (hB : impB z.vars px p q = b) (Pr : List Nat → Prop) (hP : ∀ r, LeastA (opD minusB (opD andB x a) g) r → (!r.isSome) = b → Pr (r.getD [])) :
    PureT Tryd.prog 12 [dV x i, cV a g j k] w fun v N => ∃ u wb wc, Pr u ∧ v = .tuple #[.slice wb u.length wc, .bool b, .int .i64 0] ∧ N = [rowI wb wc 5 1 (byts u)] := by
  refine (implR w hz hx ha hg i j k hi hj hk hB).mono ?_
  rintro v N ⟨res, wb, wc, hL, he, rfl, rfl⟩
  exact ⟨_, wb, wc, hP res hL he, rfl, rfl⟩
theorem refW (w : World) [Tab Tryd.prog w] {z a b0 c d : DFA} {p q p2 q2 : List Nat → Bool} (hz : Valid z) (ha : InL z a p) (hb : InL z b0 q) (hc : InL z c p2) (hd : InL z d q2) (j1 j2 j3 j4 : DK) (hj1 : At w a j1) (hj2 : At w b0 j2) (hj3 : At w c j3) (hj4 : At w d j4) {b : Bool} (hB : refB z.vars p q p2 q2 = b) (Pr : List Nat → Prop) (hP : ∀ r, LeastA (opD orB (opD minusB c a) (opD minusB (satD a b0) (satD c d))) r → (!r.isSome) = b → Pr (r.getD [])) :
    PureT Tryd.prog 13 [cV a b0 j1 j2, cV c d j3 j4] w fun v N => ∃ u wb wc, Pr u ∧ v = .tuple #[.slice wb u.length wc, .bool b, .int .i64 0] ∧ N = [rowI wb wc 5 1 (byts u)] := by
  refine (refR w hz ha hb hc hd j1 j2 j3 j4 hj1 hj2 hj3 hj4 hB).mono ?_
  rintro v N ⟨res, wb, wc, hL, he, rfl, rfl⟩
  exact ⟨_, wb, wc, hP res hL he, rfl, rfl⟩
set_option maxHeartbeats 8000000 in
set_option maxRecDepth 20000 in
theorem meansW (w : World) [Tab Tryd.prog w] (d : DFA) (jd : DK) (hd : At w d jd) (bd : BdA d) (a1 g1 : DFA) (j1 k1 : DK) (ha1 : At w a1 j1) (hg1 : At w g1 k1) (ba1 : BdA a1) (bg1 : BdA g1) (a2 g2 : DFA) (j2 k2 : DK) (ha2 : At w a2 j2) (hg2 : At w g2 k2) (ba2 : BdA a2) (bg2 : BdA g2) (wb : Option Addr) (wc : Nat) (lw : List Nat) (hW : Sl w wb (byts lw)) (hwb : lw.length < 9223372036854775807) (hw8 : ∀ x ∈ lw, x < 256) :
    PureT Tryd.prog 3 [dV d jd, .agg (cC a1 g1 j1 k1 ++ cC a2 g2 j2 k2).toArray, .slice wb lw.length wc] w fun v N => v = .bool true ∧ N = [] := by
  refine CallT.enter Tryd.func3 rfl Tryd.ntmps3 rfl ?_
  obtain ⟨z, X, A, G, B, H, px, p1, q1, p2, q2, w9, bI, bF, wx, w1, v1, w2, v2, h⟩ := mean_x d a1 g1 a2 g2 lw
  refine T.seq (T.region ?_)
  refine TO.loud rfl (l_box (v := (dV d jd)) (cs := (dC d jd)) rfl rfl (fun z1 => ?_))
  refine TO.loud rfl (l_box (v := (.agg #[(.int .i64 a1.vars), (.int .i64 a1.start), (.slice j1.nb a1.next.length j1.nc), (.slice j1.fb a1.final.length j1.fc), (.int .i64 g1.vars), (.int .i64 g1.start), (.slice k1.nb g1.next.length k1.nc), (.slice k1.fb g1.final.length k1.fc), (.int .i64 a2.vars), (.int .i64 a2.start), (.slice j2.nb a2.next.length j2.nc), (.slice j2.fb a2.final.length j2.fc), (.int .i64 g2.vars), (.int .i64 g2.start), (.slice k2.nb g2.next.length k2.nc), (.slice k2.fb g2.final.length k2.fc)])) (cs := [(.int .i64 a1.vars), (.int .i64 a1.start), (.slice j1.nb a1.next.length j1.nc), (.slice j1.fb a1.final.length j1.fc), (.int .i64 g1.vars), (.int .i64 g1.start), (.slice k1.nb g1.next.length k1.nc), (.slice k1.fb g1.final.length k1.fc), (.int .i64 a2.vars), (.int .i64 a2.start), (.slice j2.nb a2.next.length j2.nc), (.slice j2.fb a2.final.length j2.fc), (.int .i64 g2.vars), (.int .i64 g2.start), (.slice k2.nb g2.next.length k2.nc), (.slice k2.fb g2.final.length k2.fc)]) rfl rfl (fun z2 => ?_))
  refine TO.quiet (q_assign rfl) ?_
  refine TO.nil ?_
  refine T.cut (fun ρ O => ∃ (b7 : Nat) (kX : DK) (b8 : Nat) (kA : DK) (kG : DK) (b9 : Nat) (kB : DK) (kH : DK) (ib : Option Addr) (ic : Nat), O = [oI b7 25 (dC X kX), oI b8 27 (cC A G kA kG), oI b9 27 (cC B H kB kH), dI 54 4 3 X kX, dI 54 4 3 A kA, dI 54 4 3 G kG, dI 54 4 3 B kB, dI 54 4 3 H kH, rowI ib ic 5 1 (byts w9), oI z2 28 [(.int .i64 a1.vars), (.int .i64 a1.start), (.slice j1.nb a1.next.length j1.nc), (.slice j1.fb a1.final.length j1.fc), (.int .i64 g1.vars), (.int .i64 g1.start), (.slice k1.nb g1.next.length k1.nc), (.slice k1.fb g1.final.length k1.fc), (.int .i64 a2.vars), (.int .i64 a2.start), (.slice j2.nb a2.next.length j2.nc), (.slice j2.fb a2.final.length j2.fc), (.int .i64 g2.vars), (.int .i64 g2.start), (.slice k2.nb g2.next.length k2.nc), (.slice k2.fb g2.final.length k2.fc)], oI z1 25 (dC d jd)] ∧ Heads [(0, (dV d jd)), (1, (.agg #[(.int .i64 a1.vars), (.int .i64 a1.start), (.slice j1.nb a1.next.length j1.nc), (.slice j1.fb a1.final.length j1.fc), (.int .i64 g1.vars), (.int .i64 g1.start), (.slice k1.nb g1.next.length k1.nc), (.slice k1.fb g1.final.length k1.fc), (.int .i64 a2.vars), (.int .i64 a2.start), (.slice j2.nb a2.next.length j2.nc), (.slice j2.fb a2.final.length j2.fc), (.int .i64 g2.vars), (.int .i64 g2.start), (.slice k2.nb g2.next.length k2.nc), (.slice k2.fb g2.final.length k2.fc)])), (2, (.slice wb lw.length wc)), (3, (.pointer (some ⟨z1, 0, none⟩))), (4, (.pointer (some ⟨z2, 0, none⟩))), (6, .bool false), (7, (.pointer (some ⟨b7, 0, none⟩))), (8, (.pointer (some ⟨b8, 0, none⟩))), (9, (.pointer (some ⟨b9, 0, none⟩))), (10, (.slice ib w9.length ic))] ρ) ?_ ?_
  · refine T.treeT [oI z2 28 [(.int .i64 a1.vars), (.int .i64 a1.start), (.slice j1.nb a1.next.length j1.nc), (.slice j1.fb a1.final.length j1.fc), (.int .i64 g1.vars), (.int .i64 g1.start), (.slice k1.nb g1.next.length k1.nc), (.slice k1.fb g1.final.length k1.fc), (.int .i64 a2.vars), (.int .i64 a2.start), (.slice j2.nb a2.next.length j2.nc), (.slice j2.fb a2.final.length j2.fc), (.int .i64 g2.vars), (.int .i64 g2.start), (.slice k2.nb g2.next.length k2.nc), (.slice k2.fb g2.final.length k2.fc)], oI z1 25 (dC d jd)] [13, 14, 15, 16] 17 mixed rfl (by exact Sub.rf) (fun _ _ _ h => h) ?_
    refine RO.quietTT 0 rfl (by kernel_rfl) (q_load_boxAgg 1 Tryd.underlying25 rfl inf25 rfl rfl rfl) ?_
    refine RO.quietTT 2 rfl (by kernel_rfl) (q_ixArr (i := 0) Tryd.underlying28 inf27 rfl rfl (by decide)) ?_
    refine RO.quietTT 3 rfl (by kernel_rfl) (q_load_part 0 (vs := (cC a1 g1 j1 k1)) Tryd.underlying27 rfl inf27 rfl rfl rfl (by kernel_rfl)) ?_
    refine RO.quietTT 5 rfl (by kernel_rfl) (q_ixArr (i := 1) Tryd.underlying28 inf27 rfl rfl (by decide)) ?_
    refine RO.quietTT 6 rfl (by kernel_rfl) (q_load_part 0 (vs := (cC a2 g2 j2 k2)) Tryd.underlying27 rfl inf27 rfl rfl rfl (by kernel_rfl)) ?_
    refine RO.quietTT 8 rfl (by kernel_rfl) (q_move rfl) ?_
    refine RO.makers (Wt := WtM) (fuel := 4) [⟨1, 20, fun x => (dV X x.k), fun x => [dI 54 4 3 X x.k]⟩, ⟨10, 7, fun x => (.pointer (some ⟨x.n, 0, none⟩)), fun x => [oI x.n 25 [(.int .i64 0), (.int .i64 0), (.slice none 0 0), (.slice none 0 0)]]⟩, ⟨4, 23, fun x => (cV A G x.k x.k2), fun x => [dI 54 4 3 A x.k, dI 54 4 3 G x.k2]⟩, ⟨11, 8, fun x => (.pointer (some ⟨x.n, 0, none⟩)), fun x => [oI x.n 27 [(.int .i64 0), (.int .i64 0), (.slice none 0 0), (.slice none 0 0), (.int .i64 0), (.int .i64 0), (.slice none 0 0), (.slice none 0 0)]]⟩, ⟨7, 26, fun x => (cV B H x.k x.k2), fun x => [dI 54 4 3 B x.k, dI 54 4 3 H x.k2]⟩, ⟨12, 9, fun x => (.pointer (some ⟨x.n, 0, none⟩)), fun x => [oI x.n 27 [(.int .i64 0), (.int .i64 0), (.slice none 0 0), (.slice none 0 0), (.int .i64 0), (.int .i64 0), (.slice none 0 0), (.slice none 0 0)]]⟩, ⟨9, 28, fun x => (.slice x.b w9.length x.c), fun x => [rowI x.b x.c 5 1 (byts w9)]⟩] [(0, (dV d jd)), (1, (.agg #[(.int .i64 a1.vars), (.int .i64 a1.start), (.slice j1.nb a1.next.length j1.nc), (.slice j1.fb a1.final.length j1.fc), (.int .i64 g1.vars), (.int .i64 g1.start), (.slice k1.nb g1.next.length k1.nc), (.slice k1.fb g1.final.length k1.fc), (.int .i64 a2.vars), (.int .i64 a2.start), (.slice j2.nb a2.next.length j2.nc), (.slice j2.fb a2.final.length j2.fc), (.int .i64 g2.vars), (.int .i64 g2.start), (.slice k2.nb g2.next.length k2.nc), (.slice k2.fb g2.final.length k2.fc)])), (2, (.slice wb lw.length wc)), (3, (.pointer (some ⟨z1, 0, none⟩))), (4, (.pointer (some ⟨z2, 0, none⟩))), (6, .bool false), (19, (dV d jd)), (22, (cV a1 g1 j1 k1)), (25, (cV a2 g2 j2 k2)), (27, (.slice wb lw.length wc))] (fun _ => WtM.z) (by kernel_rfl) (by exact Sub.rf) ?_ ?_ ⟨rfl, rfl, rfl, rfl, rfl, rfl, rfl, rfl, rfl, rfl, trivial⟩
    · intro q hq
      simp only [List.mem_cons, List.not_mem_nil, or_false] at hq
      rcases hq with rfl | rfl | rfl | rfl | rfl | rfl | rfl
      · refine ⟨_, rfl, rfl, fun ρ O hS hH => ?_⟩
        obtain ⟨ρ0, rfl⟩ := hH.elim
        clear hH
        have hk20 := fun (w1 : World) (hI : Inv w O w1) => (haveI := Inv.tab (P := Tryd.prog) hI; subE w1 d jd (hI.atB hd) bd 4 (by decide) (by decide) h.eX)
        refine l_call ent9 (CallT.of_pure hk20) rfl ?_
        clear hk20
        rintro vr O' ⟨N, rfl, kX, rfl, rfl⟩
        exact ⟨{ WtM.z with k := kX }, rfl, rfl⟩
      · refine ⟨_, rfl, rfl, fun ρ O hS hH => ?_⟩
        obtain ⟨ρ0, rfl⟩ := hH.elim
        clear hH
        exact l_alloc inf25 rfl (fun b7 => ⟨{ WtM.z with n := b7 }, rfl, rfl⟩)
      · refine ⟨_, rfl, rfl, fun ρ O hS hH => ?_⟩
        obtain ⟨ρ0, rfl⟩ := hH.elim
        clear hH
        have hk23 := fun (w1 : World) (hI : Inv w O w1) => (haveI := Inv.tab (P := Tryd.prog) hI; tameC w1 a1 g1 j1 k1 (hI.atB ha1) (hI.atB hg1) ba1 bg1 h.eA h.eG)
        refine l_call ent10 (CallT.of_pure hk23) rfl ?_
        clear hk23
        rintro vr O' ⟨N, rfl, kA, kG, rfl, rfl⟩
        exact ⟨{ WtM.z with k := kA, k2 := kG }, rfl, rfl⟩
      · refine ⟨_, rfl, rfl, fun ρ O hS hH => ?_⟩
        obtain ⟨ρ0, rfl⟩ := hH.elim
        clear hH
        exact l_alloc inf27 rfl (fun b8 => ⟨{ WtM.z with n := b8 }, rfl, rfl⟩)
      · refine ⟨_, rfl, rfl, fun ρ O hS hH => ?_⟩
        obtain ⟨ρ0, rfl⟩ := hH.elim
        clear hH
        have hk26 := fun (w1 : World) (hI : Inv w O w1) => (haveI := Inv.tab (P := Tryd.prog) hI; tameC w1 a2 g2 j2 k2 (hI.atB ha2) (hI.atB hg2) ba2 bg2 h.eB h.eH)
        refine l_call ent10 (CallT.of_pure hk26) rfl ?_
        clear hk26
        rintro vr O' ⟨N, rfl, kB, kH, rfl, rfl⟩
        exact ⟨{ WtM.z with k := kB, k2 := kH }, rfl, rfl⟩
      · refine ⟨_, rfl, rfl, fun ρ O hS hH => ?_⟩
        obtain ⟨ρ0, rfl⟩ := hH.elim
        clear hH
        exact l_alloc inf27 rfl (fun b9 => ⟨{ WtM.z with n := b9 }, rfl, rfl⟩)
      · refine ⟨_, rfl, rfl, fun ρ O hS hH => ?_⟩
        obtain ⟨ρ0, rfl⟩ := hH.elim
        clear hH
        have hk28 := fun (w1 : World) (hI : Inv w O w1) => (haveI := Inv.tab (P := Tryd.prog) hI; (show PureT _ _ _ _ _ from by
            have h9 := lettersC w1 wb wc lw (hI.sl hW) hwb hw8
            rw [h.ew] at h9
            exact h9))
        refine l_call ent11 (CallT.of_pure hk28) rfl ?_
        clear hk28
        rintro vr O' ⟨N, rfl, ib, ic, rfl, rfl⟩
        exact ⟨{ WtM.z with b := ib, c := ic }, rfl, rfl⟩
    intro wm ρ hH
    obtain ⟨kX, e9kX⟩ : ∃ x, x = (wm 1).k := ⟨_, rfl⟩
    obtain ⟨b7, e9b7⟩ : ∃ x, x = (wm 10).n := ⟨_, rfl⟩
    obtain ⟨kA, e9kA⟩ : ∃ x, x = (wm 4).k := ⟨_, rfl⟩
    obtain ⟨kG, e9kG⟩ : ∃ x, x = (wm 4).k2 := ⟨_, rfl⟩
    obtain ⟨b8, e9b8⟩ : ∃ x, x = (wm 11).n := ⟨_, rfl⟩
    obtain ⟨kB, e9kB⟩ : ∃ x, x = (wm 7).k := ⟨_, rfl⟩
    obtain ⟨kH, e9kH⟩ : ∃ x, x = (wm 7).k2 := ⟨_, rfl⟩
    obtain ⟨b9, e9b9⟩ : ∃ x, x = (wm 12).n := ⟨_, rfl⟩
    obtain ⟨ib, e9ib⟩ : ∃ x, x = (wm 9).b := ⟨_, rfl⟩
    obtain ⟨ic, e9ic⟩ : ∃ x, x = (wm 9).c := ⟨_, rfl⟩
    have hH2 : Heads [(20, (dV X kX)), (7, (.pointer (some ⟨b7, 0, none⟩))), (23, (cV A G kA kG)), (8, (.pointer (some ⟨b8, 0, none⟩))), (26, (cV B H kB kH)), (9, (.pointer (some ⟨b9, 0, none⟩))), (28, (.slice ib w9.length ic)), (0, (dV d jd)), (1, (.agg #[(.int .i64 a1.vars), (.int .i64 a1.start), (.slice j1.nb a1.next.length j1.nc), (.slice j1.fb a1.final.length j1.fc), (.int .i64 g1.vars), (.int .i64 g1.start), (.slice k1.nb g1.next.length k1.nc), (.slice k1.fb g1.final.length k1.fc), (.int .i64 a2.vars), (.int .i64 a2.start), (.slice j2.nb a2.next.length j2.nc), (.slice j2.fb a2.final.length j2.fc), (.int .i64 g2.vars), (.int .i64 g2.start), (.slice k2.nb g2.next.length k2.nc), (.slice k2.fb g2.final.length k2.fc)])), (2, (.slice wb lw.length wc)), (3, (.pointer (some ⟨z1, 0, none⟩))), (4, (.pointer (some ⟨z2, 0, none⟩))), (6, .bool false), (19, (dV d jd)), (22, (cV a1 g1 j1 k1)), (25, (cV a2 g2 j2 k2)), (27, (.slice wb lw.length wc))] ρ := by subst e9kX e9b7 e9kA e9kG e9b8 e9kB e9kH e9b9 e9ib e9ic; exact hH
    refine RO.sub (O' := [dI 54 4 3 X kX, oI b7 25 [(.int .i64 0), (.int .i64 0), (.slice none 0 0), (.slice none 0 0)], dI 54 4 3 A kA, dI 54 4 3 G kG, oI b8 27 [(.int .i64 0), (.int .i64 0), (.slice none 0 0), (.slice none 0 0), (.int .i64 0), (.int .i64 0), (.slice none 0 0), (.slice none 0 0)], dI 54 4 3 B kB, dI 54 4 3 H kH, oI b9 27 [(.int .i64 0), (.int .i64 0), (.slice none 0 0), (.slice none 0 0), (.int .i64 0), (.int .i64 0), (.slice none 0 0), (.slice none 0 0)], rowI ib ic 5 1 (byts w9), oI z2 28 [(.int .i64 a1.vars), (.int .i64 a1.start), (.slice j1.nb a1.next.length j1.nc), (.slice j1.fb a1.final.length j1.fc), (.int .i64 g1.vars), (.int .i64 g1.start), (.slice k1.nb g1.next.length k1.nc), (.slice k1.fb g1.final.length k1.fc), (.int .i64 a2.vars), (.int .i64 a2.start), (.slice j2.nb a2.next.length j2.nc), (.slice j2.fb a2.final.length j2.fc), (.int .i64 g2.vars), (.int .i64 g2.start), (.slice k2.nb g2.next.length k2.nc), (.slice k2.fb g2.final.length k2.fc)], oI z1 25 (dC d jd)]) (by subst e9kX e9b7 e9kA e9kG e9b8 e9kB e9kH e9b9 e9ib e9ic; exact Sub.rf) ?_
    clear hH e9kX e9b7 e9kA e9kG e9b8 e9kB e9kH e9b9 e9ib e9ic
    obtain ⟨ρ0, rfl⟩ := hH2.elim
    clear hH2
    refine RO.forkT [13] (by kernel_rfl) rfl ⟨⟨_, rfl, rfl, l_store_box (v := (dV X kX)) (vs := (dC X kX)) 1 inf25 rfl rfl rfl rfl rfl rfl (by simp [putL]) ⟨.inl (by decide), ?_⟩⟩, trivial⟩ (by kernel_rfl)
    refine RO.sub (O' := [dI 54 4 3 X kX, oI b7 25 (dC X kX), dI 54 4 3 A kA, dI 54 4 3 G kG, oI b8 27 [(.int .i64 0), (.int .i64 0), (.slice none 0 0), (.slice none 0 0), (.int .i64 0), (.int .i64 0), (.slice none 0 0), (.slice none 0 0)], dI 54 4 3 B kB, dI 54 4 3 H kH, oI b9 27 [(.int .i64 0), (.int .i64 0), (.slice none 0 0), (.slice none 0 0), (.int .i64 0), (.int .i64 0), (.slice none 0 0), (.slice none 0 0)], rowI ib ic 5 1 (byts w9), oI z2 28 [(.int .i64 a1.vars), (.int .i64 a1.start), (.slice j1.nb a1.next.length j1.nc), (.slice j1.fb a1.final.length j1.fc), (.int .i64 g1.vars), (.int .i64 g1.start), (.slice k1.nb g1.next.length k1.nc), (.slice k1.fb g1.final.length k1.fc), (.int .i64 a2.vars), (.int .i64 a2.start), (.slice j2.nb a2.next.length j2.nc), (.slice j2.fb a2.final.length j2.fc), (.int .i64 g2.vars), (.int .i64 g2.start), (.slice k2.nb g2.next.length k2.nc), (.slice k2.fb g2.final.length k2.fc)], oI z1 25 (dC d jd)]) (by exact Sub.rf) ?_
    refine RO.forkT [14] (by kernel_rfl) rfl ⟨⟨_, rfl, rfl, l_store_box (v := (cV A G kA kG)) (vs := (cC A G kA kG)) 4 inf27 rfl rfl rfl rfl rfl rfl (by simp [putL]) ⟨.inl (by decide), ?_⟩⟩, trivial⟩ (by kernel_rfl)
    refine RO.sub (O' := [dI 54 4 3 X kX, oI b7 25 (dC X kX), dI 54 4 3 A kA, dI 54 4 3 G kG, oI b8 27 (cC A G kA kG), dI 54 4 3 B kB, dI 54 4 3 H kH, oI b9 27 [(.int .i64 0), (.int .i64 0), (.slice none 0 0), (.slice none 0 0), (.int .i64 0), (.int .i64 0), (.slice none 0 0), (.slice none 0 0)], rowI ib ic 5 1 (byts w9), oI z2 28 [(.int .i64 a1.vars), (.int .i64 a1.start), (.slice j1.nb a1.next.length j1.nc), (.slice j1.fb a1.final.length j1.fc), (.int .i64 g1.vars), (.int .i64 g1.start), (.slice k1.nb g1.next.length k1.nc), (.slice k1.fb g1.final.length k1.fc), (.int .i64 a2.vars), (.int .i64 a2.start), (.slice j2.nb a2.next.length j2.nc), (.slice j2.fb a2.final.length j2.fc), (.int .i64 g2.vars), (.int .i64 g2.start), (.slice k2.nb g2.next.length k2.nc), (.slice k2.fb g2.final.length k2.fc)], oI z1 25 (dC d jd)]) (by exact Sub.rf) ?_
    refine RO.forkT [15] (by kernel_rfl) rfl ⟨⟨_, rfl, rfl, l_store_box (v := (cV B H kB kH)) (vs := (cC B H kB kH)) 7 inf27 rfl rfl rfl rfl rfl rfl (by simp [putL]) ⟨.inl (by decide), ?_⟩⟩, trivial⟩ (by kernel_rfl)
    refine RO.sub (O' := [dI 54 4 3 X kX, oI b7 25 (dC X kX), dI 54 4 3 A kA, dI 54 4 3 G kG, oI b8 27 (cC A G kA kG), dI 54 4 3 B kB, dI 54 4 3 H kH, oI b9 27 (cC B H kB kH), rowI ib ic 5 1 (byts w9), oI z2 28 [(.int .i64 a1.vars), (.int .i64 a1.start), (.slice j1.nb a1.next.length j1.nc), (.slice j1.fb a1.final.length j1.fc), (.int .i64 g1.vars), (.int .i64 g1.start), (.slice k1.nb g1.next.length k1.nc), (.slice k1.fb g1.final.length k1.fc), (.int .i64 a2.vars), (.int .i64 a2.start), (.slice j2.nb a2.next.length j2.nc), (.slice j2.fb a2.final.length j2.fc), (.int .i64 g2.vars), (.int .i64 g2.start), (.slice k2.nb g2.next.length k2.nc), (.slice k2.fb g2.final.length k2.fc)], oI z1 25 (dC d jd)]) (by exact Sub.rf) ?_
    refine RO.forkT [16] (by kernel_rfl) rfl ⟨⟨_, rfl, rfl, LT.of_quiet rfl rfl (q_assign rfl) ⟨.inl (by decide), ?_⟩⟩, trivial⟩ (by kernel_rfl)
    exact RO.fin (by kernel_rfl) ⟨b7, kX, b8, kA, kG, b9, kB, kH, ib, ic, rfl, ⟨rfl, rfl, rfl, rfl, rfl, rfl, rfl, rfl, rfl, rfl, trivial⟩⟩ (Sub.pick [1, 3, 5, 0, 0, 0, 0, 0, 0, 0, 0] rfl)
  rintro ρ O ⟨b7, kX, b8, kA, kG, b9, kB, kH, ib, ic, rfl, hH⟩
  obtain ⟨ρ0, rfl⟩ := hH.elim
  clear hH
  refine T.seq (T.region ?_)
  refine TO.quiet (q_load_boxAgg 0 Tryd.underlying25 rfl inf25 rfl rfl rfl) (TO.quiet (q_load_boxAgg 1 Tryd.underlying27 rfl inf27 rfl rfl rfl) ?_)
  have hk32 := fun (w1 : World) (hI : Inv w [oI b7 25 (dC X kX), oI b8 27 (cC A G kA kG), oI b9 27 (cC B H kB kH), dI 54 4 3 X kX, dI 54 4 3 A kA, dI 54 4 3 G kG, dI 54 4 3 B kB, dI 54 4 3 H kH, rowI ib ic 5 1 (byts w9), oI z2 28 [(.int .i64 a1.vars), (.int .i64 a1.start), (.slice j1.nb a1.next.length j1.nc), (.slice j1.fb a1.final.length j1.fc), (.int .i64 g1.vars), (.int .i64 g1.start), (.slice k1.nb g1.next.length k1.nc), (.slice k1.fb g1.final.length k1.fc), (.int .i64 a2.vars), (.int .i64 a2.start), (.slice j2.nb a2.next.length j2.nc), (.slice j2.fb a2.final.length j2.fc), (.int .i64 g2.vars), (.int .i64 g2.start), (.slice k2.nb g2.next.length k2.nc), (.slice k2.fb g2.final.length k2.fc)], oI z1 25 (dC d jd)] w1) => (haveI := Inv.tab (P := Tryd.prog) hI; implW w1 h.hz h.x h.a h.g kX kA kG (hI.at (k := kX) (List.mem_of_getElem? (i := 3) rfl)) (hI.at (k := kA) (List.mem_of_getElem? (i := 4) rfl)) (hI.at (k := kG) (List.mem_of_getElem? (i := 5) rfl)) h.eI (fun v => (bI = true → v = []) ∧ v.length ≤ 64 ∧ (∀ x ∈ v, x < 256) ∧ (bI = false → accV X v = true ∧ accV A v = true ∧ accV G v = false)) h.wI)
  refine TO.loud rfl (l_call ent12 (CallT.of_pure hk32) rfl ?_)
  clear hk32
  rintro vr O' ⟨N, rfl, v, vb, vc, ⟨iI1, iI2, iI3, iI4⟩, rfl, rfl⟩
  refine TO.quiet (q_move rfl) (TO.quiet (q_extract (vs := _) rfl rfl) (TO.quiet (q_extract (vs := _) rfl rfl) (TO.quiet (q_extract (vs := _) rfl rfl) ?_)))
  refine TO.quiet (q_assign rfl) (TO.quiet (q_assign rfl) (TO.quiet (q_assign rfl) ?_))
  refine TO.nil ?_
  refine T.reset [rowI vb vc 5 1 (byts v), oI b7 25 (dC X kX), oI b8 27 (cC A G kA kG), oI b9 27 (cC B H kB kH), dI 54 4 3 X kX, dI 54 4 3 A kA, dI 54 4 3 G kG, dI 54 4 3 B kB, dI 54 4 3 H kH, rowI ib ic 5 1 (byts w9), oI z2 28 [(.int .i64 a1.vars), (.int .i64 a1.start), (.slice j1.nb a1.next.length j1.nc), (.slice j1.fb a1.final.length j1.fc), (.int .i64 g1.vars), (.int .i64 g1.start), (.slice k1.nb g1.next.length k1.nc), (.slice k1.fb g1.final.length k1.fc), (.int .i64 a2.vars), (.int .i64 a2.start), (.slice j2.nb a2.next.length j2.nc), (.slice j2.fb a2.final.length j2.fc), (.int .i64 g2.vars), (.int .i64 g2.start), (.slice k2.nb g2.next.length k2.nc), (.slice k2.fb g2.final.length k2.fc)], oI z1 25 (dC d jd)] [(0, (dV d jd)), (1, (.agg #[(.int .i64 a1.vars), (.int .i64 a1.start), (.slice j1.nb a1.next.length j1.nc), (.slice j1.fb a1.final.length j1.fc), (.int .i64 g1.vars), (.int .i64 g1.start), (.slice k1.nb g1.next.length k1.nc), (.slice k1.fb g1.final.length k1.fc), (.int .i64 a2.vars), (.int .i64 a2.start), (.slice j2.nb a2.next.length j2.nc), (.slice j2.fb a2.final.length j2.fc), (.int .i64 g2.vars), (.int .i64 g2.start), (.slice k2.nb g2.next.length k2.nc), (.slice k2.fb g2.final.length k2.fc)])), (2, (.slice wb lw.length wc)), (3, (.pointer (some ⟨z1, 0, none⟩))), (4, (.pointer (some ⟨z2, 0, none⟩))), (6, .bool false), (7, (.pointer (some ⟨b7, 0, none⟩))), (8, (.pointer (some ⟨b8, 0, none⟩))), (9, (.pointer (some ⟨b9, 0, none⟩))), (10, (.slice ib w9.length ic)), (11, (.slice vb v.length vc)), (12, .bool bI), (13, .int .i64 0)] rfl ⟨rfl, rfl, rfl, rfl, rfl, rfl, rfl, rfl, rfl, rfl, rfl, rfl, rfl, trivial⟩ (fun ρ0 => ?_)
  refine T.seq (T.region ?_)
  refine TO.quiet (q_load_boxAgg 2 Tryd.underlying27 rfl inf27 rfl rfl rfl) (TO.quiet (q_load_boxAgg 3 Tryd.underlying27 rfl inf27 rfl rfl rfl) ?_)
  have hk39 := fun (w1 : World) (hI : Inv w [rowI vb vc 5 1 (byts v), oI b7 25 (dC X kX), oI b8 27 (cC A G kA kG), oI b9 27 (cC B H kB kH), dI 54 4 3 X kX, dI 54 4 3 A kA, dI 54 4 3 G kG, dI 54 4 3 B kB, dI 54 4 3 H kH, rowI ib ic 5 1 (byts w9), oI z2 28 [(.int .i64 a1.vars), (.int .i64 a1.start), (.slice j1.nb a1.next.length j1.nc), (.slice j1.fb a1.final.length j1.fc), (.int .i64 g1.vars), (.int .i64 g1.start), (.slice k1.nb g1.next.length k1.nc), (.slice k1.fb g1.final.length k1.fc), (.int .i64 a2.vars), (.int .i64 a2.start), (.slice j2.nb a2.next.length j2.nc), (.slice j2.fb a2.final.length j2.fc), (.int .i64 g2.vars), (.int .i64 g2.start), (.slice k2.nb g2.next.length k2.nc), (.slice k2.fb g2.final.length k2.fc)], oI z1 25 (dC d jd)] w1) => (haveI := Inv.tab (P := Tryd.prog) hI; refW w1 h.hz h.a h.g h.b h.h kA kG kB kH (hI.at (k := kA) (List.mem_of_getElem? (i := 5) rfl)) (hI.at (k := kG) (List.mem_of_getElem? (i := 6) rfl)) (hI.at (k := kB) (List.mem_of_getElem? (i := 7) rfl)) (hI.at (k := kH) (List.mem_of_getElem? (i := 8) rfl)) h.eF (fun v => (bF = true → v = []) ∧ v.length ≤ 64 ∧ (∀ x ∈ v, x < 256) ∧ ∃ u1 t1 u2 t2, accV A v = u1 ∧ accV G v = t1 ∧ accV B v = u2 ∧ accV H v = t2 ∧ (bF = false → (u2 = true ∧ u1 = false) ∨ ((t1 || !u1) = true ∧ (t2 || !u2) = false))) h.wF)
  refine TO.loud rfl (l_call ent13 (CallT.of_pure hk39) rfl ?_)
  clear hk39
  rintro vr O' ⟨N, rfl, u, ub, uc, ⟨iF1, iF2, iF3, u1, t1, u2, t2, eu1, et1, eu2, et2, iF4⟩, rfl, rfl⟩
  refine TO.quiet (q_move rfl) (TO.quiet (q_extract (vs := _) rfl rfl) (TO.quiet (q_extract (vs := _) rfl rfl) (TO.quiet (q_extract (vs := _) rfl rfl) ?_)))
  refine TO.quiet (q_assign rfl) (TO.quiet (q_assign rfl) (TO.quiet (q_assign rfl) ?_))
  refine TO.nil ?_
  refine T.cut (fun ρ O => Sub [rowI ub uc 5 1 (byts u), rowI vb vc 5 1 (byts v), oI b7 25 (dC X kX), oI b8 27 (cC A G kA kG), oI b9 27 (cC B H kB kH), dI 54 4 3 X kX, dI 54 4 3 A kA, dI 54 4 3 G kG, dI 54 4 3 B kB, dI 54 4 3 H kH, rowI ib ic 5 1 (byts w9), oI z2 28 [(.int .i64 a1.vars), (.int .i64 a1.start), (.slice j1.nb a1.next.length j1.nc), (.slice j1.fb a1.final.length j1.fc), (.int .i64 g1.vars), (.int .i64 g1.start), (.slice k1.nb g1.next.length k1.nc), (.slice k1.fb g1.final.length k1.fc), (.int .i64 a2.vars), (.int .i64 a2.start), (.slice j2.nb a2.next.length j2.nc), (.slice j2.fb a2.final.length j2.fc), (.int .i64 g2.vars), (.int .i64 g2.start), (.slice k2.nb g2.next.length k2.nc), (.slice k2.fb g2.final.length k2.fc)], oI z1 25 (dC d jd)] O ∧ Heads [(0, (dV d jd)), (1, (.agg #[(.int .i64 a1.vars), (.int .i64 a1.start), (.slice j1.nb a1.next.length j1.nc), (.slice j1.fb a1.final.length j1.fc), (.int .i64 g1.vars), (.int .i64 g1.start), (.slice k1.nb g1.next.length k1.nc), (.slice k1.fb g1.final.length k1.fc), (.int .i64 a2.vars), (.int .i64 a2.start), (.slice j2.nb a2.next.length j2.nc), (.slice j2.fb a2.final.length j2.fc), (.int .i64 g2.vars), (.int .i64 g2.start), (.slice k2.nb g2.next.length k2.nc), (.slice k2.fb g2.final.length k2.fc)])), (2, (.slice wb lw.length wc)), (3, (.pointer (some ⟨z1, 0, none⟩))), (4, (.pointer (some ⟨z2, 0, none⟩))), (7, (.pointer (some ⟨b7, 0, none⟩))), (8, (.pointer (some ⟨b8, 0, none⟩))), (9, (.pointer (some ⟨b9, 0, none⟩))), (10, (.slice ib w9.length ic)), (11, (.slice vb v.length vc)), (12, .bool bI), (13, .int .i64 0), (14, (.slice ub u.length uc)), (15, .bool bF), (16, .int .i64 0)] ρ) ?_ ?_
  · refine T.seq ?_
    refine T.region ?_
    refine TO.quiet (q_move rfl) (TO.quiet (QT.toB (q_neq rfl rfl) (decide_eq_false (fun h => h rfl))) (TO.quiet (q_move rfl) ?_))
    refine TO.guarded rfl rfl rfl (LT.of_quiet rfl rfl (q_move rfl) ?_)
    refine TO.guarded rfl rfl rfl (LT.of_quiet rfl rfl (QT.toB (q_neq rfl rfl) (decide_eq_false (fun h => h rfl))) ?_)
    refine TO.quiet (q_pick0 rfl rfl) (TO.quiet (q_move rfl) ?_)
    refine TO.guarded rfl rfl rfl (LT.of_quiet rfl rfl (q_move rfl) ?_)
    by_cases hs51 : bI = true
    · refine TO.guarded rfl rfl rfl (LT.of_quiet rfl rfl (QT.toB (q_move rfl) (hs51)) ?_)
      refine TO.guarded rfl rfl rfl (LT.of_quiet rfl rfl (q_move rfl) ?_)
      refine TO.guarded rfl rfl rfl (LT.of_quiet rfl rfl (q_len Tryd.underlying29 rfl) ?_)
      refine TO.guarded rfl rfl rfl (LT.of_quiet rfl rfl (QT.toB (q_gtr rfl rfl) (decide_eq_false (by have h9 := iI1 (by assumption); simp [h9]))) ?_)
      refine TO.guarded rfl rfl rfl (LT.of_quiet rfl rfl (q_pick1 rfl rfl) ?_)
      refine TO.quiet (q_pick0 rfl rfl) (TO.quiet (q_move rfl) ?_)
      refine TO.guarded rfl rfl rfl (LT.of_quiet rfl rfl (q_move rfl) ?_)
      by_cases hs59 : bF = true
      · refine TO.guarded rfl rfl rfl (LT.of_quiet rfl rfl (QT.toB (q_move rfl) (hs59)) ?_)
        refine TO.guarded rfl rfl rfl (LT.of_quiet rfl rfl (q_move rfl) ?_)
        refine TO.guarded rfl rfl rfl (LT.of_quiet rfl rfl (q_len Tryd.underlying29 rfl) ?_)
        refine TO.guarded rfl rfl rfl (LT.of_quiet rfl rfl (QT.toB (q_gtr rfl rfl) (decide_eq_false (by have h9 := iF1 (by assumption); simp [h9]))) ?_)
        refine TO.guarded rfl rfl rfl (LT.of_quiet rfl rfl (q_pick1 rfl rfl) ?_)
        refine TO.quiet (q_pick0 rfl rfl) ?_
        refine TO.nil ?_
        refine T.cond0 rfl ?_
        refine T.skip ?_
        exact ⟨(by exact Sub.rf), ⟨rfl, rfl, rfl, rfl, rfl, rfl, rfl, rfl, rfl, rfl, rfl, rfl, rfl, rfl, rfl, trivial⟩⟩
      refine TO.guarded rfl rfl rfl (LT.of_quiet rfl rfl (QT.toB (q_move rfl) (Bool.eq_false_iff.2 hs59)) ?_)
      refine TO.passed rfl rfl ?_
      refine TO.passed rfl rfl ?_
      refine TO.passed rfl rfl ?_
      refine TO.guarded rfl rfl rfl (LT.of_quiet rfl rfl (q_pick0 rfl rfl) ?_)
      refine TO.quiet (q_pick0 rfl rfl) ?_
      refine TO.nil ?_
      refine T.cond0 rfl ?_
      refine T.skip ?_
      exact ⟨(by exact Sub.rf), ⟨rfl, rfl, rfl, rfl, rfl, rfl, rfl, rfl, rfl, rfl, rfl, rfl, rfl, rfl, rfl, trivial⟩⟩
    refine TO.guarded rfl rfl rfl (LT.of_quiet rfl rfl (QT.toB (q_move rfl) (Bool.eq_false_iff.2 hs51)) ?_)
    refine TO.passed rfl rfl ?_
    refine TO.passed rfl rfl ?_
    refine TO.passed rfl rfl ?_
    refine TO.guarded rfl rfl rfl (LT.of_quiet rfl rfl (q_pick0 rfl rfl) ?_)
    refine TO.quiet (q_pick0 rfl rfl) (TO.quiet (q_move rfl) ?_)
    refine TO.guarded rfl rfl rfl (LT.of_quiet rfl rfl (q_move rfl) ?_)
    by_cases hs59 : bF = true
    · refine TO.guarded rfl rfl rfl (LT.of_quiet rfl rfl (QT.toB (q_move rfl) (hs59)) ?_)
      refine TO.guarded rfl rfl rfl (LT.of_quiet rfl rfl (q_move rfl) ?_)
      refine TO.guarded rfl rfl rfl (LT.of_quiet rfl rfl (q_len Tryd.underlying29 rfl) ?_)
      refine TO.guarded rfl rfl rfl (LT.of_quiet rfl rfl (QT.toB (q_gtr rfl rfl) (decide_eq_false (by have h9 := iF1 (by assumption); simp [h9]))) ?_)
      refine TO.guarded rfl rfl rfl (LT.of_quiet rfl rfl (q_pick1 rfl rfl) ?_)
      refine TO.quiet (q_pick0 rfl rfl) ?_
      refine TO.nil ?_
      refine T.cond0 rfl ?_
      refine T.skip ?_
      exact ⟨(by exact Sub.rf), ⟨rfl, rfl, rfl, rfl, rfl, rfl, rfl, rfl, rfl, rfl, rfl, rfl, rfl, rfl, rfl, trivial⟩⟩
    refine TO.guarded rfl rfl rfl (LT.of_quiet rfl rfl (QT.toB (q_move rfl) (Bool.eq_false_iff.2 hs59)) ?_)
    refine TO.passed rfl rfl ?_
    refine TO.passed rfl rfl ?_
    refine TO.passed rfl rfl ?_
    refine TO.guarded rfl rfl rfl (LT.of_quiet rfl rfl (q_pick0 rfl rfl) ?_)
    refine TO.quiet (q_pick0 rfl rfl) ?_
    refine TO.nil ?_
    refine T.cond0 rfl ?_
    refine T.skip ?_
    exact ⟨(by exact Sub.rf), ⟨rfl, rfl, rfl, rfl, rfl, rfl, rfl, rfl, rfl, rfl, rfl, rfl, rfl, rfl, rfl, trivial⟩⟩
  rintro ρ O ⟨hS, hH⟩
  obtain ⟨ρ0, rfl⟩ := hH.elim
  clear hH
  refine T.sub hS ?_
  refine T.cut (fun ρ O => Sub [rowI ub uc 5 1 (byts u), rowI vb vc 5 1 (byts v), oI b7 25 (dC X kX), oI b8 27 (cC A G kA kG), oI b9 27 (cC B H kB kH), dI 54 4 3 X kX, dI 54 4 3 A kA, dI 54 4 3 G kG, dI 54 4 3 B kB, dI 54 4 3 H kH, rowI ib ic 5 1 (byts w9), oI z2 28 [(.int .i64 a1.vars), (.int .i64 a1.start), (.slice j1.nb a1.next.length j1.nc), (.slice j1.fb a1.final.length j1.fc), (.int .i64 g1.vars), (.int .i64 g1.start), (.slice k1.nb g1.next.length k1.nc), (.slice k1.fb g1.final.length k1.fc), (.int .i64 a2.vars), (.int .i64 a2.start), (.slice j2.nb a2.next.length j2.nc), (.slice j2.fb a2.final.length j2.fc), (.int .i64 g2.vars), (.int .i64 g2.start), (.slice k2.nb g2.next.length k2.nc), (.slice k2.fb g2.final.length k2.fc)], oI z1 25 (dC d jd)] O ∧ Heads [(0, (dV d jd)), (1, (.agg #[(.int .i64 a1.vars), (.int .i64 a1.start), (.slice j1.nb a1.next.length j1.nc), (.slice j1.fb a1.final.length j1.fc), (.int .i64 g1.vars), (.int .i64 g1.start), (.slice k1.nb g1.next.length k1.nc), (.slice k1.fb g1.final.length k1.fc), (.int .i64 a2.vars), (.int .i64 a2.start), (.slice j2.nb a2.next.length j2.nc), (.slice j2.fb a2.final.length j2.fc), (.int .i64 g2.vars), (.int .i64 g2.start), (.slice k2.nb g2.next.length k2.nc), (.slice k2.fb g2.final.length k2.fc)])), (2, (.slice wb lw.length wc)), (3, (.pointer (some ⟨z1, 0, none⟩))), (4, (.pointer (some ⟨z2, 0, none⟩))), (7, (.pointer (some ⟨b7, 0, none⟩))), (8, (.pointer (some ⟨b8, 0, none⟩))), (9, (.pointer (some ⟨b9, 0, none⟩))), (10, (.slice ib w9.length ic)), (11, (.slice vb v.length vc)), (12, .bool bI), (13, .int .i64 0), (14, (.slice ub u.length uc)), (15, .bool bF), (16, .int .i64 0)] ρ) ?_ ?_
  · refine T.seq ?_
    refine T.region ?_
    refine TO.quiet (q_move rfl) ?_
    by_cases hs66 : bI = true
    · refine TO.quiet (QT.toB (q_move rfl) (hs66)) ?_
      refine TO.guarded rfl rfl rfl (LT.of_quiet rfl rfl (q_load_boxAgg 2 Tryd.underlying25 rfl inf25 rfl rfl rfl) ?_)
      refine TO.guarded rfl rfl rfl (LT.of_quiet rfl rfl (q_move rfl) ?_)
      have hk69 := fun (w1 : World) (hI : Inv w [rowI ub uc 5 1 (byts u), rowI vb vc 5 1 (byts v), oI b7 25 (dC X kX), oI b8 27 (cC A G kA kG), oI b9 27 (cC B H kB kH), dI 54 4 3 X kX, dI 54 4 3 A kA, dI 54 4 3 G kG, dI 54 4 3 B kB, dI 54 4 3 H kH, rowI ib ic 5 1 (byts w9), oI z2 28 [(.int .i64 a1.vars), (.int .i64 a1.start), (.slice j1.nb a1.next.length j1.nc), (.slice j1.fb a1.final.length j1.fc), (.int .i64 g1.vars), (.int .i64 g1.start), (.slice k1.nb g1.next.length k1.nc), (.slice k1.fb g1.final.length k1.fc), (.int .i64 a2.vars), (.int .i64 a2.start), (.slice j2.nb a2.next.length j2.nc), (.slice j2.fb a2.final.length j2.fc), (.int .i64 g2.vars), (.int .i64 g2.start), (.slice k2.nb g2.next.length k2.nc), (.slice k2.fb g2.final.length k2.fc)], oI z1 25 (dC d jd)] w1) => (haveI := Inv.tab (P := Tryd.prog) hI; accF w1 X kX (hI.at (k := kX) (List.mem_of_getElem? (i := 5) rfl)) h.x.bds ib ic w9 (hI.slOf (List.mem_of_getElem? (i := 10) rfl)) (by have := h.wl; omega) h.w8 h.ax)
      refine TO.guarded rfl rfl rfl (l_call ent14 (CallT.of_pure hk69) rfl ?_)
      clear hk69
      rintro vr O' ⟨N, rfl, rfl, rfl⟩
      refine TO.quiet (q_pick1 rfl rfl) ?_
      by_cases hs71 : wx = true
      · refine TO.quiet (QT.toB (q_move rfl) (hs71)) ?_
        refine TO.guarded rfl rfl rfl (LT.of_quiet rfl rfl (q_fieldAddr Tryd.underlying27 rfl inf25 rfl rfl) ?_)
        refine TO.guarded rfl rfl rfl (LT.of_quiet rfl rfl (q_load_part 3 (vs := (dC A kA)) Tryd.underlying25 rfl inf25 rfl rfl rfl rfl) ?_)
        refine TO.guarded rfl rfl rfl (LT.of_quiet rfl rfl (q_move rfl) ?_)
        have hk75 := fun (w1 : World) (hI : Inv w [rowI ub uc 5 1 (byts u), rowI vb vc 5 1 (byts v), oI b7 25 (dC X kX), oI b8 27 (cC A G kA kG), oI b9 27 (cC B H kB kH), dI 54 4 3 X kX, dI 54 4 3 A kA, dI 54 4 3 G kG, dI 54 4 3 B kB, dI 54 4 3 H kH, rowI ib ic 5 1 (byts w9), oI z2 28 [(.int .i64 a1.vars), (.int .i64 a1.start), (.slice j1.nb a1.next.length j1.nc), (.slice j1.fb a1.final.length j1.fc), (.int .i64 g1.vars), (.int .i64 g1.start), (.slice k1.nb g1.next.length k1.nc), (.slice k1.fb g1.final.length k1.fc), (.int .i64 a2.vars), (.int .i64 a2.start), (.slice j2.nb a2.next.length j2.nc), (.slice j2.fb a2.final.length j2.fc), (.int .i64 g2.vars), (.int .i64 g2.start), (.slice k2.nb g2.next.length k2.nc), (.slice k2.fb g2.final.length k2.fc)], oI z1 25 (dC d jd)] w1) => (haveI := Inv.tab (P := Tryd.prog) hI; accF w1 A kA (hI.at (k := kA) (List.mem_of_getElem? (i := 6) rfl)) h.a.bds ib ic w9 (hI.slOf (List.mem_of_getElem? (i := 10) rfl)) (by have := h.wl; omega) h.w8 h.a1)
        refine TO.guarded rfl rfl rfl (l_call ent14 (CallT.of_pure hk75) rfl ?_)
        clear hk75
        rintro vr O' ⟨N, rfl, rfl, rfl⟩
        refine TO.quiet (q_pick1 rfl rfl) ?_
        by_cases hs77 : w1 = true
        · refine TO.quiet (QT.toB (q_move rfl) (hs77)) ?_
          refine TO.guarded rfl rfl rfl (LT.of_quiet rfl rfl (q_fieldAddr Tryd.underlying27 rfl inf25 rfl rfl) ?_)
          refine TO.guarded rfl rfl rfl (LT.of_quiet rfl rfl (q_load_part 3 (vs := (dC G kG)) Tryd.underlying25 rfl inf25 rfl rfl rfl rfl) ?_)
          refine TO.guarded rfl rfl rfl (LT.of_quiet rfl rfl (q_move rfl) ?_)
          have hk81 := fun (w1 : World) (hI : Inv w [rowI ub uc 5 1 (byts u), rowI vb vc 5 1 (byts v), oI b7 25 (dC X kX), oI b8 27 (cC A G kA kG), oI b9 27 (cC B H kB kH), dI 54 4 3 X kX, dI 54 4 3 A kA, dI 54 4 3 G kG, dI 54 4 3 B kB, dI 54 4 3 H kH, rowI ib ic 5 1 (byts w9), oI z2 28 [(.int .i64 a1.vars), (.int .i64 a1.start), (.slice j1.nb a1.next.length j1.nc), (.slice j1.fb a1.final.length j1.fc), (.int .i64 g1.vars), (.int .i64 g1.start), (.slice k1.nb g1.next.length k1.nc), (.slice k1.fb g1.final.length k1.fc), (.int .i64 a2.vars), (.int .i64 a2.start), (.slice j2.nb a2.next.length j2.nc), (.slice j2.fb a2.final.length j2.fc), (.int .i64 g2.vars), (.int .i64 g2.start), (.slice k2.nb g2.next.length k2.nc), (.slice k2.fb g2.final.length k2.fc)], oI z1 25 (dC d jd)] w1) => (haveI := Inv.tab (P := Tryd.prog) hI; accF w1 G kG (hI.at (k := kG) (List.mem_of_getElem? (i := 7) rfl)) h.g.bds ib ic w9 (hI.slOf (List.mem_of_getElem? (i := 10) rfl)) (by have := h.wl; omega) h.w8 h.a2)
          refine TO.guarded rfl rfl rfl (l_call ent14 (CallT.of_pure hk81) rfl ?_)
          clear hk81
          rintro vr O' ⟨N, rfl, rfl, rfl⟩
          refine TO.guarded rfl rfl rfl (LT.of_quiet rfl rfl (q_not rfl) ?_)
          refine TO.quiet (q_pick1 rfl rfl) ?_
          refine TO.nil ?_
          refine T.cond rfl (fun hc => ?_) (fun hc => ?_)
          · exact absurd hc (by clear iI4 iF4 iI1 iF1; have h1 := h.f1; have h2 := h.f2; have h3 := h.f3; simp_all)
          refine T.skip ?_
          exact ⟨(by exact Sub.rf), ⟨rfl, rfl, rfl, rfl, rfl, rfl, rfl, rfl, rfl, rfl, rfl, rfl, rfl, rfl, rfl, trivial⟩⟩
        refine TO.quiet (QT.toB (q_move rfl) (Bool.eq_false_iff.2 hs77)) ?_
        refine TO.passed rfl rfl ?_
        refine TO.passed rfl rfl ?_
        refine TO.passed rfl rfl ?_
        refine TO.passed rfl rfl ?_
        refine TO.passed rfl rfl ?_
        refine TO.quiet (q_pick0 rfl rfl) ?_
        refine TO.nil ?_
        refine T.cond0 rfl ?_
        refine T.skip ?_
        exact ⟨(by exact Sub.rf), ⟨rfl, rfl, rfl, rfl, rfl, rfl, rfl, rfl, rfl, rfl, rfl, rfl, rfl, rfl, rfl, trivial⟩⟩
      refine TO.quiet (QT.toB (q_move rfl) (Bool.eq_false_iff.2 hs71)) ?_
      refine TO.passed rfl rfl ?_
      refine TO.passed rfl rfl ?_
      refine TO.passed rfl rfl ?_
      refine TO.passed rfl rfl ?_
      refine TO.quiet (q_pick0 rfl rfl) (TO.quiet (q_move rfl) ?_)
      refine TO.passed rfl rfl ?_
      refine TO.passed rfl rfl ?_
      refine TO.passed rfl rfl ?_
      refine TO.passed rfl rfl ?_
      refine TO.passed rfl rfl ?_
      refine TO.quiet (q_pick0 rfl rfl) ?_
      refine TO.nil ?_
      refine T.cond0 rfl ?_
      refine T.skip ?_
      exact ⟨(by exact Sub.rf), ⟨rfl, rfl, rfl, rfl, rfl, rfl, rfl, rfl, rfl, rfl, rfl, rfl, rfl, rfl, rfl, trivial⟩⟩
    refine TO.quiet (QT.toB (q_move rfl) (Bool.eq_false_iff.2 hs66)) ?_
    refine TO.passed rfl rfl ?_
    refine TO.passed rfl rfl ?_
    refine TO.passed rfl rfl ?_
    refine TO.quiet (q_pick0 rfl rfl) (TO.quiet (q_move rfl) ?_)
    refine TO.passed rfl rfl ?_
    refine TO.passed rfl rfl ?_
    refine TO.passed rfl rfl ?_
    refine TO.passed rfl rfl ?_
    refine TO.quiet (q_pick0 rfl rfl) (TO.quiet (q_move rfl) ?_)
    refine TO.passed rfl rfl ?_
    refine TO.passed rfl rfl ?_
    refine TO.passed rfl rfl ?_
    refine TO.passed rfl rfl ?_
    refine TO.passed rfl rfl ?_
    refine TO.quiet (q_pick0 rfl rfl) ?_
    refine TO.nil ?_
    refine T.cond0 rfl ?_
    refine T.skip ?_
    exact ⟨(by exact Sub.rf), ⟨rfl, rfl, rfl, rfl, rfl, rfl, rfl, rfl, rfl, rfl, rfl, rfl, rfl, rfl, rfl, trivial⟩⟩
  rintro ρ O ⟨hS, hH⟩
  obtain ⟨ρ0, rfl⟩ := hH.elim
  clear hH
  refine T.sub hS ?_
  refine T.cut (fun ρ O => Sub [rowI ub uc 5 1 (byts u), rowI vb vc 5 1 (byts v), oI b7 25 (dC X kX), oI b8 27 (cC A G kA kG), oI b9 27 (cC B H kB kH), dI 54 4 3 X kX, dI 54 4 3 A kA, dI 54 4 3 G kG, dI 54 4 3 B kB, dI 54 4 3 H kH, rowI ib ic 5 1 (byts w9), oI z2 28 [(.int .i64 a1.vars), (.int .i64 a1.start), (.slice j1.nb a1.next.length j1.nc), (.slice j1.fb a1.final.length j1.fc), (.int .i64 g1.vars), (.int .i64 g1.start), (.slice k1.nb g1.next.length k1.nc), (.slice k1.fb g1.final.length k1.fc), (.int .i64 a2.vars), (.int .i64 a2.start), (.slice j2.nb a2.next.length j2.nc), (.slice j2.fb a2.final.length j2.fc), (.int .i64 g2.vars), (.int .i64 g2.start), (.slice k2.nb g2.next.length k2.nc), (.slice k2.fb g2.final.length k2.fc)], oI z1 25 (dC d jd)] O ∧ Heads [(0, (dV d jd)), (1, (.agg #[(.int .i64 a1.vars), (.int .i64 a1.start), (.slice j1.nb a1.next.length j1.nc), (.slice j1.fb a1.final.length j1.fc), (.int .i64 g1.vars), (.int .i64 g1.start), (.slice k1.nb g1.next.length k1.nc), (.slice k1.fb g1.final.length k1.fc), (.int .i64 a2.vars), (.int .i64 a2.start), (.slice j2.nb a2.next.length j2.nc), (.slice j2.fb a2.final.length j2.fc), (.int .i64 g2.vars), (.int .i64 g2.start), (.slice k2.nb g2.next.length k2.nc), (.slice k2.fb g2.final.length k2.fc)])), (2, (.slice wb lw.length wc)), (3, (.pointer (some ⟨z1, 0, none⟩))), (4, (.pointer (some ⟨z2, 0, none⟩))), (7, (.pointer (some ⟨b7, 0, none⟩))), (8, (.pointer (some ⟨b8, 0, none⟩))), (9, (.pointer (some ⟨b9, 0, none⟩))), (10, (.slice ib w9.length ic)), (11, (.slice vb v.length vc)), (12, .bool bI), (13, .int .i64 0), (14, (.slice ub u.length uc)), (15, .bool bF), (16, .int .i64 0)] ρ) ?_ ?_
  · refine T.seq ?_
    refine T.region ?_
    refine TO.quiet (q_move rfl) (TO.quiet (q_not rfl) ?_)
    by_cases hs86 : (!bI) = true
    · refine TO.quiet (QT.toB (q_move rfl) (hs86)) ?_
      refine TO.guarded rfl rfl rfl (LT.of_quiet rfl rfl (q_load_boxAgg 2 Tryd.underlying25 rfl inf25 rfl rfl rfl) ?_)
      refine TO.guarded rfl rfl rfl (LT.of_quiet rfl rfl (q_move rfl) ?_)
      have hk89 := fun (w1 : World) (hI : Inv w [rowI ub uc 5 1 (byts u), rowI vb vc 5 1 (byts v), oI b7 25 (dC X kX), oI b8 27 (cC A G kA kG), oI b9 27 (cC B H kB kH), dI 54 4 3 X kX, dI 54 4 3 A kA, dI 54 4 3 G kG, dI 54 4 3 B kB, dI 54 4 3 H kH, rowI ib ic 5 1 (byts w9), oI z2 28 [(.int .i64 a1.vars), (.int .i64 a1.start), (.slice j1.nb a1.next.length j1.nc), (.slice j1.fb a1.final.length j1.fc), (.int .i64 g1.vars), (.int .i64 g1.start), (.slice k1.nb g1.next.length k1.nc), (.slice k1.fb g1.final.length k1.fc), (.int .i64 a2.vars), (.int .i64 a2.start), (.slice j2.nb a2.next.length j2.nc), (.slice j2.fb a2.final.length j2.fc), (.int .i64 g2.vars), (.int .i64 g2.start), (.slice k2.nb g2.next.length k2.nc), (.slice k2.fb g2.final.length k2.fc)], oI z1 25 (dC d jd)] w1) => (haveI := Inv.tab (P := Tryd.prog) hI; accF w1 X kX (hI.at (k := kX) (List.mem_of_getElem? (i := 5) rfl)) h.x.bds vb vc v (hI.slOf (List.mem_of_getElem? (i := 1) rfl)) (by omega) iI3 (iI4 (by simpa using hs86)).1)
      refine TO.guarded rfl rfl rfl (l_call ent14 (CallT.of_pure hk89) rfl ?_)
      clear hk89
      rintro vr O' ⟨N, rfl, rfl, rfl⟩
      refine TO.guarded rfl rfl rfl (LT.of_quiet rfl rfl (q_move rfl) ?_)
      refine TO.guarded rfl rfl rfl (LT.of_quiet rfl rfl (q_fieldAddr Tryd.underlying27 rfl inf25 rfl rfl) ?_)
      refine TO.guarded rfl rfl rfl (LT.of_quiet rfl rfl (q_load_part 3 (vs := (dC A kA)) Tryd.underlying25 rfl inf25 rfl rfl rfl rfl) ?_)
      refine TO.guarded rfl rfl rfl (LT.of_quiet rfl rfl (q_move rfl) ?_)
      have hk94 := fun (w1 : World) (hI : Inv w [rowI ub uc 5 1 (byts u), rowI vb vc 5 1 (byts v), oI b7 25 (dC X kX), oI b8 27 (cC A G kA kG), oI b9 27 (cC B H kB kH), dI 54 4 3 X kX, dI 54 4 3 A kA, dI 54 4 3 G kG, dI 54 4 3 B kB, dI 54 4 3 H kH, rowI ib ic 5 1 (byts w9), oI z2 28 [(.int .i64 a1.vars), (.int .i64 a1.start), (.slice j1.nb a1.next.length j1.nc), (.slice j1.fb a1.final.length j1.fc), (.int .i64 g1.vars), (.int .i64 g1.start), (.slice k1.nb g1.next.length k1.nc), (.slice k1.fb g1.final.length k1.fc), (.int .i64 a2.vars), (.int .i64 a2.start), (.slice j2.nb a2.next.length j2.nc), (.slice j2.fb a2.final.length j2.fc), (.int .i64 g2.vars), (.int .i64 g2.start), (.slice k2.nb g2.next.length k2.nc), (.slice k2.fb g2.final.length k2.fc)], oI z1 25 (dC d jd)] w1) => (haveI := Inv.tab (P := Tryd.prog) hI; accF w1 A kA (hI.at (k := kA) (List.mem_of_getElem? (i := 6) rfl)) h.a.bds vb vc v (hI.slOf (List.mem_of_getElem? (i := 1) rfl)) (by omega) iI3 (iI4 (by simpa using hs86)).2.1)
      refine TO.guarded rfl rfl rfl (l_call ent14 (CallT.of_pure hk94) rfl ?_)
      clear hk94
      rintro vr O' ⟨N, rfl, rfl, rfl⟩
      refine TO.guarded rfl rfl rfl (LT.of_quiet rfl rfl (q_pick1 rfl rfl) ?_)
      refine TO.guarded rfl rfl rfl (LT.of_quiet rfl rfl (q_move rfl) ?_)
      refine TO.guarded rfl rfl rfl (LT.of_quiet rfl rfl (q_fieldAddr Tryd.underlying27 rfl inf25 rfl rfl) ?_)
      refine TO.guarded rfl rfl rfl (LT.of_quiet rfl rfl (q_load_part 3 (vs := (dC G kG)) Tryd.underlying25 rfl inf25 rfl rfl rfl rfl) ?_)
      refine TO.guarded rfl rfl rfl (LT.of_quiet rfl rfl (q_move rfl) ?_)
      have hk100 := fun (w1 : World) (hI : Inv w [rowI ub uc 5 1 (byts u), rowI vb vc 5 1 (byts v), oI b7 25 (dC X kX), oI b8 27 (cC A G kA kG), oI b9 27 (cC B H kB kH), dI 54 4 3 X kX, dI 54 4 3 A kA, dI 54 4 3 G kG, dI 54 4 3 B kB, dI 54 4 3 H kH, rowI ib ic 5 1 (byts w9), oI z2 28 [(.int .i64 a1.vars), (.int .i64 a1.start), (.slice j1.nb a1.next.length j1.nc), (.slice j1.fb a1.final.length j1.fc), (.int .i64 g1.vars), (.int .i64 g1.start), (.slice k1.nb g1.next.length k1.nc), (.slice k1.fb g1.final.length k1.fc), (.int .i64 a2.vars), (.int .i64 a2.start), (.slice j2.nb a2.next.length j2.nc), (.slice j2.fb a2.final.length j2.fc), (.int .i64 g2.vars), (.int .i64 g2.start), (.slice k2.nb g2.next.length k2.nc), (.slice k2.fb g2.final.length k2.fc)], oI z1 25 (dC d jd)] w1) => (haveI := Inv.tab (P := Tryd.prog) hI; accF w1 G kG (hI.at (k := kG) (List.mem_of_getElem? (i := 7) rfl)) h.g.bds vb vc v (hI.slOf (List.mem_of_getElem? (i := 1) rfl)) (by omega) iI3 (iI4 (by simpa using hs86)).2.2)
      refine TO.guarded rfl rfl rfl (l_call ent14 (CallT.of_pure hk100) rfl ?_)
      clear hk100
      rintro vr O' ⟨N, rfl, rfl, rfl⟩
      refine TO.guarded rfl rfl rfl (LT.of_quiet rfl rfl (q_not rfl) ?_)
      refine TO.guarded rfl rfl rfl (LT.of_quiet rfl rfl (q_pick1 rfl rfl) ?_)
      refine TO.guarded rfl rfl rfl (LT.of_quiet rfl rfl (q_not rfl) ?_)
      refine TO.quiet (q_pick1 rfl rfl) ?_
      refine TO.nil ?_
      refine T.cond0 rfl ?_
      refine T.skip ?_
      exact ⟨(by exact Sub.rf), ⟨rfl, rfl, rfl, rfl, rfl, rfl, rfl, rfl, rfl, rfl, rfl, rfl, rfl, rfl, rfl, trivial⟩⟩
    refine TO.quiet (QT.toB (q_move rfl) (Bool.eq_false_iff.2 hs86)) ?_
    refine TO.passed rfl rfl ?_
    refine TO.passed rfl rfl ?_
    refine TO.passed rfl rfl ?_
    refine TO.passed rfl rfl ?_
    refine TO.passed rfl rfl ?_
    refine TO.passed rfl rfl ?_
    refine TO.passed rfl rfl ?_
    refine TO.passed rfl rfl ?_
    refine TO.passed rfl rfl ?_
    refine TO.passed rfl rfl ?_
    refine TO.passed rfl rfl ?_
    refine TO.passed rfl rfl ?_
    refine TO.passed rfl rfl ?_
    refine TO.passed rfl rfl ?_
    refine TO.passed rfl rfl ?_
    refine TO.passed rfl rfl ?_
    refine TO.passed rfl rfl ?_
    refine TO.quiet (q_pick0 rfl rfl) ?_
    refine TO.nil ?_
    refine T.cond0 rfl ?_
    refine T.skip ?_
    exact ⟨(by exact Sub.rf), ⟨rfl, rfl, rfl, rfl, rfl, rfl, rfl, rfl, rfl, rfl, rfl, rfl, rfl, rfl, rfl, trivial⟩⟩
  rintro ρ O ⟨hS, hH⟩
  obtain ⟨ρ0, rfl⟩ := hH.elim
  clear hH
  refine T.sub hS ?_
  refine T.cut (fun ρ O => Sub [rowI ub uc 5 1 (byts u), rowI vb vc 5 1 (byts v), oI b7 25 (dC X kX), oI b8 27 (cC A G kA kG), oI b9 27 (cC B H kB kH), dI 54 4 3 X kX, dI 54 4 3 A kA, dI 54 4 3 G kG, dI 54 4 3 B kB, dI 54 4 3 H kH, rowI ib ic 5 1 (byts w9), oI z2 28 [(.int .i64 a1.vars), (.int .i64 a1.start), (.slice j1.nb a1.next.length j1.nc), (.slice j1.fb a1.final.length j1.fc), (.int .i64 g1.vars), (.int .i64 g1.start), (.slice k1.nb g1.next.length k1.nc), (.slice k1.fb g1.final.length k1.fc), (.int .i64 a2.vars), (.int .i64 a2.start), (.slice j2.nb a2.next.length j2.nc), (.slice j2.fb a2.final.length j2.fc), (.int .i64 g2.vars), (.int .i64 g2.start), (.slice k2.nb g2.next.length k2.nc), (.slice k2.fb g2.final.length k2.fc)], oI z1 25 (dC d jd)] O ∧ Heads [(0, (dV d jd)), (1, (.agg #[(.int .i64 a1.vars), (.int .i64 a1.start), (.slice j1.nb a1.next.length j1.nc), (.slice j1.fb a1.final.length j1.fc), (.int .i64 g1.vars), (.int .i64 g1.start), (.slice k1.nb g1.next.length k1.nc), (.slice k1.fb g1.final.length k1.fc), (.int .i64 a2.vars), (.int .i64 a2.start), (.slice j2.nb a2.next.length j2.nc), (.slice j2.fb a2.final.length j2.fc), (.int .i64 g2.vars), (.int .i64 g2.start), (.slice k2.nb g2.next.length k2.nc), (.slice k2.fb g2.final.length k2.fc)])), (2, (.slice wb lw.length wc)), (3, (.pointer (some ⟨z1, 0, none⟩))), (4, (.pointer (some ⟨z2, 0, none⟩))), (7, (.pointer (some ⟨b7, 0, none⟩))), (8, (.pointer (some ⟨b8, 0, none⟩))), (9, (.pointer (some ⟨b9, 0, none⟩))), (10, (.slice ib w9.length ic)), (11, (.slice vb v.length vc)), (12, .bool bI), (13, .int .i64 0), (14, (.slice ub u.length uc)), (15, .bool bF), (16, .int .i64 0), (17, .bool (v1 || !w1)), (18, .bool (v2 || !w2))] ρ) ?_ ?_
  · refine T.draws [oI b8 27 (cC A G kA kG), oI b9 27 (cC B H kB kH)] [(0, 0), (1, 0), (2, 0), (11, 0), (12, 0), (13, 0), (3, 1), (4, 0), (5, 0), (6, 0), (7, 0), (8, 1), (9, 0), (10, 0), (14, 1), (15, 0), (16, 0), (17, 0), (18, 0), (19, 1), (20, 0), (21, 0), (22, 0), (23, 0)] mixed (drawF_ok (by kernel_rfl)) (by exact Sub.d (.d (.d (.k (.k .z))))) (fun _ _ _ h => h) ?_
    refine DO.quiet rfl (q_fieldAddr Tryd.underlying27 rfl inf25 rfl rfl) (DO.quiet rfl (q_load_part 0 (vs := (dC G kG)) Tryd.underlying25 rfl inf25 rfl rfl rfl rfl) (DO.quiet rfl (q_move rfl) (DO.quiet rfl (q_fieldAddr Tryd.underlying27 rfl inf25 rfl rfl) ?_)))
    refine DO.quiet rfl (q_load_part 1 (vs := (dC H kH)) Tryd.underlying25 rfl inf25 rfl rfl rfl rfl) (DO.quiet rfl (q_move rfl) ?_)
    have hk108 := fun (w1 : World) (hI : Inv w [rowI ub uc 5 1 (byts u), rowI vb vc 5 1 (byts v), oI b7 25 (dC X kX), oI b8 27 (cC A G kA kG), oI b9 27 (cC B H kB kH), dI 54 4 3 X kX, dI 54 4 3 A kA, dI 54 4 3 G kG, dI 54 4 3 B kB, dI 54 4 3 H kH, rowI ib ic 5 1 (byts w9), oI z2 28 [(.int .i64 a1.vars), (.int .i64 a1.start), (.slice j1.nb a1.next.length j1.nc), (.slice j1.fb a1.final.length j1.fc), (.int .i64 g1.vars), (.int .i64 g1.start), (.slice k1.nb g1.next.length k1.nc), (.slice k1.fb g1.final.length k1.fc), (.int .i64 a2.vars), (.int .i64 a2.start), (.slice j2.nb a2.next.length j2.nc), (.slice j2.fb a2.final.length j2.fc), (.int .i64 g2.vars), (.int .i64 g2.start), (.slice k2.nb g2.next.length k2.nc), (.slice k2.fb g2.final.length k2.fc)], oI z1 25 (dC d jd)] w1) => (haveI := Inv.tab (P := Tryd.prog) hI; accF w1 G kG (hI.at (k := kG) (List.mem_of_getElem? (i := 7) rfl)) h.g.bds ib ic w9 (hI.slOf (List.mem_of_getElem? (i := 10) rfl)) (by have := h.wl; omega) h.w8 h.a2)
    refine DO.loud rfl rfl (l_call ent14 (CallT.of_pure hk108) rfl ?_)
    clear hk108
    rintro vr O' ⟨N, rfl, rfl, rfl⟩
    refine ⟨by exact Sub.d (.d (.d (.k (.k .z)))), ?_⟩
    by_cases hs109 : v1 = true
    · refine DO.quiet rfl (QT.toB (q_move rfl) (hs109)) ?_
      refine DO.passed rfl rfl rfl ?_
      refine DO.passed rfl rfl rfl ?_
      refine DO.passed rfl rfl rfl ?_
      refine DO.passedL (by decide) rfl rfl rfl rfl rfl ?_
      refine DO.passed rfl rfl rfl ?_
      refine DO.quiet rfl (q_pick1 rfl rfl) ?_
      have hk119 := fun (w1 : World) (hI : Inv w [rowI ub uc 5 1 (byts u), rowI vb vc 5 1 (byts v), oI b7 25 (dC X kX), oI b8 27 (cC A G kA kG), oI b9 27 (cC B H kB kH), dI 54 4 3 X kX, dI 54 4 3 A kA, dI 54 4 3 G kG, dI 54 4 3 B kB, dI 54 4 3 H kH, rowI ib ic 5 1 (byts w9), oI z2 28 [(.int .i64 a1.vars), (.int .i64 a1.start), (.slice j1.nb a1.next.length j1.nc), (.slice j1.fb a1.final.length j1.fc), (.int .i64 g1.vars), (.int .i64 g1.start), (.slice k1.nb g1.next.length k1.nc), (.slice k1.fb g1.final.length k1.fc), (.int .i64 a2.vars), (.int .i64 a2.start), (.slice j2.nb a2.next.length j2.nc), (.slice j2.fb a2.final.length j2.fc), (.int .i64 g2.vars), (.int .i64 g2.start), (.slice k2.nb g2.next.length k2.nc), (.slice k2.fb g2.final.length k2.fc)], oI z1 25 (dC d jd)] w1) => (haveI := Inv.tab (P := Tryd.prog) hI; accF w1 H kH (hI.at (k := kH) (List.mem_of_getElem? (i := 9) rfl)) h.h.bds ib ic w9 (hI.slOf (List.mem_of_getElem? (i := 10) rfl)) (by have := h.wl; omega) h.w8 h.a4)
      refine DO.loud rfl rfl (l_call ent14 (CallT.of_pure hk119) rfl ?_)
      clear hk119
      rintro vr O' ⟨N, rfl, rfl, rfl⟩
      refine ⟨by exact Sub.d (.d (.d (.k (.k .z)))), ?_⟩
      by_cases hs120 : v2 = true
      · refine DO.quiet rfl (QT.toB (q_move rfl) (hs120)) ?_
        refine DO.passed rfl rfl rfl ?_
        refine DO.passed rfl rfl rfl ?_
        refine DO.passed rfl rfl rfl ?_
        refine DO.passedL (by decide) rfl rfl rfl rfl rfl ?_
        refine DO.passed rfl rfl rfl ?_
        refine DO.quiet rfl (q_pick1 rfl rfl) (DO.quiet rfl (q_assign rfl) (DO.quiet rfl (q_assign rfl) ?_))
        refine DO.done ?_
        exact ⟨(by exact Sub.rf), ⟨rfl, rfl, rfl, rfl, rfl, rfl, rfl, rfl, rfl, rfl, rfl, rfl, rfl, rfl, rfl, (congrArg Value.bool (by first | (rw [hs109]; rfl) | (rw [Bool.eq_false_iff.2 hs109]; rfl))), (congrArg Value.bool (by first | (rw [hs120]; rfl) | (rw [Bool.eq_false_iff.2 hs120]; rfl))), trivial⟩⟩
      refine DO.quiet rfl (QT.toB (q_move rfl) (Bool.eq_false_iff.2 hs120)) ?_
      refine DO.guarded rfl rfl rfl (q_fieldAddr Tryd.underlying27 rfl inf25 rfl rfl) ?_
      refine DO.guarded rfl rfl rfl (q_load_part 1 (vs := (dC B kB)) Tryd.underlying25 rfl inf25 rfl rfl rfl rfl) ?_
      refine DO.guarded rfl rfl rfl (q_move rfl) ?_
      have hk124 := fun (w1 : World) (hI : Inv w [rowI ub uc 5 1 (byts u), rowI vb vc 5 1 (byts v), oI b7 25 (dC X kX), oI b8 27 (cC A G kA kG), oI b9 27 (cC B H kB kH), dI 54 4 3 X kX, dI 54 4 3 A kA, dI 54 4 3 G kG, dI 54 4 3 B kB, dI 54 4 3 H kH, rowI ib ic 5 1 (byts w9), oI z2 28 [(.int .i64 a1.vars), (.int .i64 a1.start), (.slice j1.nb a1.next.length j1.nc), (.slice j1.fb a1.final.length j1.fc), (.int .i64 g1.vars), (.int .i64 g1.start), (.slice k1.nb g1.next.length k1.nc), (.slice k1.fb g1.final.length k1.fc), (.int .i64 a2.vars), (.int .i64 a2.start), (.slice j2.nb a2.next.length j2.nc), (.slice j2.fb a2.final.length j2.fc), (.int .i64 g2.vars), (.int .i64 g2.start), (.slice k2.nb g2.next.length k2.nc), (.slice k2.fb g2.final.length k2.fc)], oI z1 25 (dC d jd)] w1) => (haveI := Inv.tab (P := Tryd.prog) hI; accF w1 B kB (hI.at (k := kB) (List.mem_of_getElem? (i := 8) rfl)) h.b.bds ib ic w9 (hI.slOf (List.mem_of_getElem? (i := 10) rfl)) (by have := h.wl; omega) h.w8 h.a3)
      refine DO.loudG rfl rfl rfl rfl (l_call ent14 (CallT.of_pure hk124) rfl ?_)
      clear hk124
      rintro vr O' ⟨N, rfl, rfl, rfl⟩
      refine ⟨by exact Sub.d (.d (.d (.k (.k .z)))), ?_⟩
      refine DO.guarded rfl rfl rfl (q_not rfl) ?_
      refine DO.quiet rfl (q_pick0 rfl rfl) (DO.quiet rfl (q_assign rfl) (DO.quiet rfl (q_assign rfl) ?_))
      refine DO.done ?_
      exact ⟨(by exact Sub.rf), ⟨rfl, rfl, rfl, rfl, rfl, rfl, rfl, rfl, rfl, rfl, rfl, rfl, rfl, rfl, rfl, (congrArg Value.bool (by first | (rw [hs109]; rfl) | (rw [Bool.eq_false_iff.2 hs109]; rfl))), (congrArg Value.bool (by first | (rw [hs120]; rfl) | (rw [Bool.eq_false_iff.2 hs120]; rfl))), trivial⟩⟩
    refine DO.quiet rfl (QT.toB (q_move rfl) (Bool.eq_false_iff.2 hs109)) ?_
    refine DO.guarded rfl rfl rfl (q_fieldAddr Tryd.underlying27 rfl inf25 rfl rfl) ?_
    refine DO.guarded rfl rfl rfl (q_load_part 0 (vs := (dC A kA)) Tryd.underlying25 rfl inf25 rfl rfl rfl rfl) ?_
    refine DO.guarded rfl rfl rfl (q_move rfl) ?_
    have hk113 := fun (w1 : World) (hI : Inv w [rowI ub uc 5 1 (byts u), rowI vb vc 5 1 (byts v), oI b7 25 (dC X kX), oI b8 27 (cC A G kA kG), oI b9 27 (cC B H kB kH), dI 54 4 3 X kX, dI 54 4 3 A kA, dI 54 4 3 G kG, dI 54 4 3 B kB, dI 54 4 3 H kH, rowI ib ic 5 1 (byts w9), oI z2 28 [(.int .i64 a1.vars), (.int .i64 a1.start), (.slice j1.nb a1.next.length j1.nc), (.slice j1.fb a1.final.length j1.fc), (.int .i64 g1.vars), (.int .i64 g1.start), (.slice k1.nb g1.next.length k1.nc), (.slice k1.fb g1.final.length k1.fc), (.int .i64 a2.vars), (.int .i64 a2.start), (.slice j2.nb a2.next.length j2.nc), (.slice j2.fb a2.final.length j2.fc), (.int .i64 g2.vars), (.int .i64 g2.start), (.slice k2.nb g2.next.length k2.nc), (.slice k2.fb g2.final.length k2.fc)], oI z1 25 (dC d jd)] w1) => (haveI := Inv.tab (P := Tryd.prog) hI; accF w1 A kA (hI.at (k := kA) (List.mem_of_getElem? (i := 6) rfl)) h.a.bds ib ic w9 (hI.slOf (List.mem_of_getElem? (i := 10) rfl)) (by have := h.wl; omega) h.w8 h.a1)
    refine DO.loudG rfl rfl rfl rfl (l_call ent14 (CallT.of_pure hk113) rfl ?_)
    clear hk113
    rintro vr O' ⟨N, rfl, rfl, rfl⟩
    refine ⟨by exact Sub.d (.d (.d (.k (.k .z)))), ?_⟩
    refine DO.guarded rfl rfl rfl (q_not rfl) ?_
    refine DO.quiet rfl (q_pick0 rfl rfl) ?_
    have hk119 := fun (w1 : World) (hI : Inv w [rowI ub uc 5 1 (byts u), rowI vb vc 5 1 (byts v), oI b7 25 (dC X kX), oI b8 27 (cC A G kA kG), oI b9 27 (cC B H kB kH), dI 54 4 3 X kX, dI 54 4 3 A kA, dI 54 4 3 G kG, dI 54 4 3 B kB, dI 54 4 3 H kH, rowI ib ic 5 1 (byts w9), oI z2 28 [(.int .i64 a1.vars), (.int .i64 a1.start), (.slice j1.nb a1.next.length j1.nc), (.slice j1.fb a1.final.length j1.fc), (.int .i64 g1.vars), (.int .i64 g1.start), (.slice k1.nb g1.next.length k1.nc), (.slice k1.fb g1.final.length k1.fc), (.int .i64 a2.vars), (.int .i64 a2.start), (.slice j2.nb a2.next.length j2.nc), (.slice j2.fb a2.final.length j2.fc), (.int .i64 g2.vars), (.int .i64 g2.start), (.slice k2.nb g2.next.length k2.nc), (.slice k2.fb g2.final.length k2.fc)], oI z1 25 (dC d jd)] w1) => (haveI := Inv.tab (P := Tryd.prog) hI; accF w1 H kH (hI.at (k := kH) (List.mem_of_getElem? (i := 9) rfl)) h.h.bds ib ic w9 (hI.slOf (List.mem_of_getElem? (i := 10) rfl)) (by have := h.wl; omega) h.w8 h.a4)
    refine DO.loud rfl rfl (l_call ent14 (CallT.of_pure hk119) rfl ?_)
    clear hk119
    rintro vr O' ⟨N, rfl, rfl, rfl⟩
    refine ⟨by exact Sub.d (.d (.d (.k (.k .z)))), ?_⟩
    by_cases hs120 : v2 = true
    · refine DO.quiet rfl (QT.toB (q_move rfl) (hs120)) ?_
      refine DO.passed rfl rfl rfl ?_
      refine DO.passed rfl rfl rfl ?_
      refine DO.passed rfl rfl rfl ?_
      refine DO.passedL (by decide) rfl rfl rfl rfl rfl ?_
      refine DO.passed rfl rfl rfl ?_
      refine DO.quiet rfl (q_pick1 rfl rfl) (DO.quiet rfl (q_assign rfl) (DO.quiet rfl (q_assign rfl) ?_))
      refine DO.done ?_
      exact ⟨(by exact Sub.rf), ⟨rfl, rfl, rfl, rfl, rfl, rfl, rfl, rfl, rfl, rfl, rfl, rfl, rfl, rfl, rfl, (congrArg Value.bool (by first | (rw [hs109]; rfl) | (rw [Bool.eq_false_iff.2 hs109]; rfl))), (congrArg Value.bool (by first | (rw [hs120]; rfl) | (rw [Bool.eq_false_iff.2 hs120]; rfl))), trivial⟩⟩
    refine DO.quiet rfl (QT.toB (q_move rfl) (Bool.eq_false_iff.2 hs120)) ?_
    refine DO.guarded rfl rfl rfl (q_fieldAddr Tryd.underlying27 rfl inf25 rfl rfl) ?_
    refine DO.guarded rfl rfl rfl (q_load_part 1 (vs := (dC B kB)) Tryd.underlying25 rfl inf25 rfl rfl rfl rfl) ?_
    refine DO.guarded rfl rfl rfl (q_move rfl) ?_
    have hk124 := fun (w1 : World) (hI : Inv w [rowI ub uc 5 1 (byts u), rowI vb vc 5 1 (byts v), oI b7 25 (dC X kX), oI b8 27 (cC A G kA kG), oI b9 27 (cC B H kB kH), dI 54 4 3 X kX, dI 54 4 3 A kA, dI 54 4 3 G kG, dI 54 4 3 B kB, dI 54 4 3 H kH, rowI ib ic 5 1 (byts w9), oI z2 28 [(.int .i64 a1.vars), (.int .i64 a1.start), (.slice j1.nb a1.next.length j1.nc), (.slice j1.fb a1.final.length j1.fc), (.int .i64 g1.vars), (.int .i64 g1.start), (.slice k1.nb g1.next.length k1.nc), (.slice k1.fb g1.final.length k1.fc), (.int .i64 a2.vars), (.int .i64 a2.start), (.slice j2.nb a2.next.length j2.nc), (.slice j2.fb a2.final.length j2.fc), (.int .i64 g2.vars), (.int .i64 g2.start), (.slice k2.nb g2.next.length k2.nc), (.slice k2.fb g2.final.length k2.fc)], oI z1 25 (dC d jd)] w1) => (haveI := Inv.tab (P := Tryd.prog) hI; accF w1 B kB (hI.at (k := kB) (List.mem_of_getElem? (i := 8) rfl)) h.b.bds ib ic w9 (hI.slOf (List.mem_of_getElem? (i := 10) rfl)) (by have := h.wl; omega) h.w8 h.a3)
    refine DO.loudG rfl rfl rfl rfl (l_call ent14 (CallT.of_pure hk124) rfl ?_)
    clear hk124
    rintro vr O' ⟨N, rfl, rfl, rfl⟩
    refine ⟨by exact Sub.d (.d (.d (.k (.k .z)))), ?_⟩
    refine DO.guarded rfl rfl rfl (q_not rfl) ?_
    refine DO.quiet rfl (q_pick0 rfl rfl) (DO.quiet rfl (q_assign rfl) (DO.quiet rfl (q_assign rfl) ?_))
    refine DO.done ?_
    exact ⟨(by exact Sub.rf), ⟨rfl, rfl, rfl, rfl, rfl, rfl, rfl, rfl, rfl, rfl, rfl, rfl, rfl, rfl, rfl, (congrArg Value.bool (by first | (rw [hs109]; rfl) | (rw [Bool.eq_false_iff.2 hs109]; rfl))), (congrArg Value.bool (by first | (rw [hs120]; rfl) | (rw [Bool.eq_false_iff.2 hs120]; rfl))), trivial⟩⟩
  rintro ρ O ⟨hS, hH⟩
  obtain ⟨ρ0, rfl⟩ := hH.elim
  clear hH
  refine T.sub hS ?_
  refine T.cut (fun ρ O => Sub [rowI ub uc 5 1 (byts u), rowI vb vc 5 1 (byts v), oI b7 25 (dC X kX), oI b8 27 (cC A G kA kG), oI b9 27 (cC B H kB kH), dI 54 4 3 X kX, dI 54 4 3 A kA, dI 54 4 3 G kG, dI 54 4 3 B kB, dI 54 4 3 H kH, rowI ib ic 5 1 (byts w9), oI z2 28 [(.int .i64 a1.vars), (.int .i64 a1.start), (.slice j1.nb a1.next.length j1.nc), (.slice j1.fb a1.final.length j1.fc), (.int .i64 g1.vars), (.int .i64 g1.start), (.slice k1.nb g1.next.length k1.nc), (.slice k1.fb g1.final.length k1.fc), (.int .i64 a2.vars), (.int .i64 a2.start), (.slice j2.nb a2.next.length j2.nc), (.slice j2.fb a2.final.length j2.fc), (.int .i64 g2.vars), (.int .i64 g2.start), (.slice k2.nb g2.next.length k2.nc), (.slice k2.fb g2.final.length k2.fc)], oI z1 25 (dC d jd)] O ∧ Heads [(0, (dV d jd)), (1, (.agg #[(.int .i64 a1.vars), (.int .i64 a1.start), (.slice j1.nb a1.next.length j1.nc), (.slice j1.fb a1.final.length j1.fc), (.int .i64 g1.vars), (.int .i64 g1.start), (.slice k1.nb g1.next.length k1.nc), (.slice k1.fb g1.final.length k1.fc), (.int .i64 a2.vars), (.int .i64 a2.start), (.slice j2.nb a2.next.length j2.nc), (.slice j2.fb a2.final.length j2.fc), (.int .i64 g2.vars), (.int .i64 g2.start), (.slice k2.nb g2.next.length k2.nc), (.slice k2.fb g2.final.length k2.fc)])), (2, (.slice wb lw.length wc)), (3, (.pointer (some ⟨z1, 0, none⟩))), (4, (.pointer (some ⟨z2, 0, none⟩))), (7, (.pointer (some ⟨b7, 0, none⟩))), (8, (.pointer (some ⟨b8, 0, none⟩))), (9, (.pointer (some ⟨b9, 0, none⟩))), (10, (.slice ib w9.length ic)), (11, (.slice vb v.length vc)), (12, .bool bI), (13, .int .i64 0), (14, (.slice ub u.length uc)), (15, .bool bF), (16, .int .i64 0), (17, .bool (v1 || !w1)), (18, .bool (v2 || !w2))] ρ) ?_ ?_
  · refine T.seq ?_
    refine T.region ?_
    refine TO.quiet (q_move rfl) ?_
    by_cases hs128 : bF = true
    · refine TO.quiet (QT.toB (q_move rfl) (hs128)) ?_
      refine TO.guarded rfl rfl rfl (LT.of_quiet rfl rfl (q_fieldAddr Tryd.underlying27 rfl inf25 rfl rfl) ?_)
      refine TO.guarded rfl rfl rfl (LT.of_quiet rfl rfl (q_load_part 4 (vs := (dC B kB)) Tryd.underlying25 rfl inf25 rfl rfl rfl rfl) ?_)
      refine TO.guarded rfl rfl rfl (LT.of_quiet rfl rfl (q_move rfl) ?_)
      have hk132 := fun (w1 : World) (hI : Inv w [rowI ub uc 5 1 (byts u), rowI vb vc 5 1 (byts v), oI b7 25 (dC X kX), oI b8 27 (cC A G kA kG), oI b9 27 (cC B H kB kH), dI 54 4 3 X kX, dI 54 4 3 A kA, dI 54 4 3 G kG, dI 54 4 3 B kB, dI 54 4 3 H kH, rowI ib ic 5 1 (byts w9), oI z2 28 [(.int .i64 a1.vars), (.int .i64 a1.start), (.slice j1.nb a1.next.length j1.nc), (.slice j1.fb a1.final.length j1.fc), (.int .i64 g1.vars), (.int .i64 g1.start), (.slice k1.nb g1.next.length k1.nc), (.slice k1.fb g1.final.length k1.fc), (.int .i64 a2.vars), (.int .i64 a2.start), (.slice j2.nb a2.next.length j2.nc), (.slice j2.fb a2.final.length j2.fc), (.int .i64 g2.vars), (.int .i64 g2.start), (.slice k2.nb g2.next.length k2.nc), (.slice k2.fb g2.final.length k2.fc)], oI z1 25 (dC d jd)] w1) => (haveI := Inv.tab (P := Tryd.prog) hI; accF w1 B kB (hI.at (k := kB) (List.mem_of_getElem? (i := 8) rfl)) h.b.bds ib ic w9 (hI.slOf (List.mem_of_getElem? (i := 10) rfl)) (by have := h.wl; omega) h.w8 h.a3)
      refine TO.guarded rfl rfl rfl (l_call ent14 (CallT.of_pure hk132) rfl ?_)
      clear hk132
      rintro vr O' ⟨N, rfl, rfl, rfl⟩
      by_cases hs133 : w2 = true
      · refine TO.guarded rfl rfl rfl (LT.of_quiet rfl rfl (QT.toB (q_move rfl) (hs133)) ?_)
        refine TO.guarded rfl rfl rfl (LT.of_quiet rfl rfl (q_fieldAddr Tryd.underlying27 rfl inf25 rfl rfl) ?_)
        refine TO.guarded rfl rfl rfl (LT.of_quiet rfl rfl (q_load_part 3 (vs := (dC A kA)) Tryd.underlying25 rfl inf25 rfl rfl rfl rfl) ?_)
        refine TO.guarded rfl rfl rfl (LT.of_quiet rfl rfl (q_move rfl) ?_)
        have hk137 := fun (w1 : World) (hI : Inv w [rowI ub uc 5 1 (byts u), rowI vb vc 5 1 (byts v), oI b7 25 (dC X kX), oI b8 27 (cC A G kA kG), oI b9 27 (cC B H kB kH), dI 54 4 3 X kX, dI 54 4 3 A kA, dI 54 4 3 G kG, dI 54 4 3 B kB, dI 54 4 3 H kH, rowI ib ic 5 1 (byts w9), oI z2 28 [(.int .i64 a1.vars), (.int .i64 a1.start), (.slice j1.nb a1.next.length j1.nc), (.slice j1.fb a1.final.length j1.fc), (.int .i64 g1.vars), (.int .i64 g1.start), (.slice k1.nb g1.next.length k1.nc), (.slice k1.fb g1.final.length k1.fc), (.int .i64 a2.vars), (.int .i64 a2.start), (.slice j2.nb a2.next.length j2.nc), (.slice j2.fb a2.final.length j2.fc), (.int .i64 g2.vars), (.int .i64 g2.start), (.slice k2.nb g2.next.length k2.nc), (.slice k2.fb g2.final.length k2.fc)], oI z1 25 (dC d jd)] w1) => (haveI := Inv.tab (P := Tryd.prog) hI; accF w1 A kA (hI.at (k := kA) (List.mem_of_getElem? (i := 6) rfl)) h.a.bds ib ic w9 (hI.slOf (List.mem_of_getElem? (i := 10) rfl)) (by have := h.wl; omega) h.w8 h.a1)
        refine TO.guarded rfl rfl rfl (l_call ent14 (CallT.of_pure hk137) rfl ?_)
        clear hk137
        rintro vr O' ⟨N, rfl, rfl, rfl⟩
        refine TO.guarded rfl rfl rfl (LT.of_quiet rfl rfl (q_not rfl) ?_)
        refine TO.guarded rfl rfl rfl (LT.of_quiet rfl rfl (q_pick1 rfl rfl) ?_)
        by_cases hs140 : (!w1) = true
        · refine TO.guarded rfl rfl rfl (LT.of_quiet rfl rfl (QT.toB (q_move rfl) (hs140)) ?_)
          refine TO.passed rfl rfl ?_
          refine TO.passed rfl rfl ?_
          refine TO.passed rfl rfl ?_
          refine TO.passed rfl rfl ?_
          refine TO.passed rfl rfl ?_
          refine TO.guarded rfl rfl rfl (LT.of_quiet rfl rfl (q_pick1 rfl rfl) ?_)
          refine TO.quiet (q_pick1 rfl rfl) ?_
          refine TO.nil ?_
          refine T.cond1 rfl ?_
          refine T.seq (T.region ?_)
          refine TO.quiet (q_assign rfl) ?_
          refine TO.nil (T.ret (Res.drop ?_))
          refine Res.one (.bool false) Tryd.results3 rfl ?_
          exact absurd (show False by first | (have h4 := iF4 hnF; clear iI4 iF4 iI1 iF1; simp_all; done) | (clear iI4 iF4 iI1 iF1; have h1 := h.f1; have h2 := h.f2; have h3 := h.f3; simp_all)) not_false
        refine TO.guarded rfl rfl rfl (LT.of_quiet rfl rfl (QT.toB (q_move rfl) (Bool.eq_false_iff.2 hs140)) ?_)
        refine TO.guarded rfl rfl rfl (LT.of_quiet rfl rfl (q_move rfl) ?_)
        by_cases hs142 : (v1 || !w1) = true
        · refine TO.guarded rfl rfl rfl (LT.of_quiet rfl rfl (QT.toB (q_move rfl) (hs142)) ?_)
          refine TO.guarded rfl rfl rfl (LT.of_quiet rfl rfl (q_move rfl) ?_)
          refine TO.guarded rfl rfl rfl (LT.of_quiet rfl rfl (q_not rfl) ?_)
          refine TO.guarded rfl rfl rfl (LT.of_quiet rfl rfl (q_pick1 rfl rfl) ?_)
          refine TO.guarded rfl rfl rfl (LT.of_quiet rfl rfl (q_pick0 rfl rfl) ?_)
          refine TO.quiet (q_pick1 rfl rfl) ?_
          refine TO.nil ?_
          refine T.cond rfl (fun hc => ?_) (fun hc => ?_)
          · exact absurd hc (by clear iI4 iF4 iI1 iF1; have h1 := h.f1; have h2 := h.f2; have h3 := h.f3; simp_all)
          refine T.skip ?_
          exact ⟨(by exact Sub.rf), ⟨rfl, rfl, rfl, rfl, rfl, rfl, rfl, rfl, rfl, rfl, rfl, rfl, rfl, rfl, rfl, rfl, rfl, trivial⟩⟩
        refine TO.guarded rfl rfl rfl (LT.of_quiet rfl rfl (QT.toB (q_move rfl) (Bool.eq_false_iff.2 hs142)) ?_)
        refine TO.passed rfl rfl ?_
        refine TO.passed rfl rfl ?_
        refine TO.guarded rfl rfl rfl (LT.of_quiet rfl rfl (q_pick0 rfl rfl) ?_)
        refine TO.guarded rfl rfl rfl (LT.of_quiet rfl rfl (q_pick0 rfl rfl) ?_)
        refine TO.quiet (q_pick1 rfl rfl) ?_
        refine TO.nil ?_
        refine T.cond0 rfl ?_
        refine T.skip ?_
        exact ⟨(by exact Sub.rf), ⟨rfl, rfl, rfl, rfl, rfl, rfl, rfl, rfl, rfl, rfl, rfl, rfl, rfl, rfl, rfl, rfl, rfl, trivial⟩⟩
      refine TO.guarded rfl rfl rfl (LT.of_quiet rfl rfl (QT.toB (q_move rfl) (Bool.eq_false_iff.2 hs133)) ?_)
      refine TO.passed rfl rfl ?_
      refine TO.passed rfl rfl ?_
      refine TO.passed rfl rfl ?_
      refine TO.passed rfl rfl ?_
      refine TO.passed rfl rfl ?_
      refine TO.guarded rfl rfl rfl (LT.of_quiet rfl rfl (q_pick0 rfl rfl) ?_)
      refine TO.guarded rfl rfl rfl (LT.of_quiet rfl rfl (q_move rfl) ?_)
      refine TO.guarded rfl rfl rfl (LT.of_quiet rfl rfl (q_move rfl) ?_)
      by_cases hs142 : (v1 || !w1) = true
      · refine TO.guarded rfl rfl rfl (LT.of_quiet rfl rfl (QT.toB (q_move rfl) (hs142)) ?_)
        refine TO.guarded rfl rfl rfl (LT.of_quiet rfl rfl (q_move rfl) ?_)
        refine TO.guarded rfl rfl rfl (LT.of_quiet rfl rfl (q_not rfl) ?_)
        refine TO.guarded rfl rfl rfl (LT.of_quiet rfl rfl (q_pick1 rfl rfl) ?_)
        refine TO.guarded rfl rfl rfl (LT.of_quiet rfl rfl (q_pick0 rfl rfl) ?_)
        refine TO.quiet (q_pick1 rfl rfl) ?_
        refine TO.nil ?_
        refine T.cond rfl (fun hc => ?_) (fun hc => ?_)
        · exact absurd hc (by clear iI4 iF4 iI1 iF1; have h1 := h.f1; have h2 := h.f2; have h3 := h.f3; simp_all)
        refine T.skip ?_
        exact ⟨(by exact Sub.rf), ⟨rfl, rfl, rfl, rfl, rfl, rfl, rfl, rfl, rfl, rfl, rfl, rfl, rfl, rfl, rfl, rfl, rfl, trivial⟩⟩
      refine TO.guarded rfl rfl rfl (LT.of_quiet rfl rfl (QT.toB (q_move rfl) (Bool.eq_false_iff.2 hs142)) ?_)
      refine TO.passed rfl rfl ?_
      refine TO.passed rfl rfl ?_
      refine TO.guarded rfl rfl rfl (LT.of_quiet rfl rfl (q_pick0 rfl rfl) ?_)
      refine TO.guarded rfl rfl rfl (LT.of_quiet rfl rfl (q_pick0 rfl rfl) ?_)
      refine TO.quiet (q_pick1 rfl rfl) ?_
      refine TO.nil ?_
      refine T.cond0 rfl ?_
      refine T.skip ?_
      exact ⟨(by exact Sub.rf), ⟨rfl, rfl, rfl, rfl, rfl, rfl, rfl, rfl, rfl, rfl, rfl, rfl, rfl, rfl, rfl, rfl, rfl, trivial⟩⟩
    refine TO.quiet (QT.toB (q_move rfl) (Bool.eq_false_iff.2 hs128)) ?_
    refine TO.passed rfl rfl ?_
    refine TO.passed rfl rfl ?_
    refine TO.passed rfl rfl ?_
    refine TO.passed rfl rfl ?_
    refine TO.passed rfl rfl ?_
    refine TO.passed rfl rfl ?_
    refine TO.passed rfl rfl ?_
    refine TO.passed rfl rfl ?_
    refine TO.passed rfl rfl ?_
    refine TO.passed rfl rfl ?_
    refine TO.passed rfl rfl ?_
    refine TO.passed rfl rfl ?_
    refine TO.passed rfl rfl ?_
    refine TO.passed rfl rfl ?_
    refine TO.passed rfl rfl ?_
    refine TO.passed rfl rfl ?_
    refine TO.passed rfl rfl ?_
    refine TO.passed rfl rfl ?_
    refine TO.quiet (q_pick0 rfl rfl) ?_
    refine TO.nil ?_
    refine T.cond0 rfl ?_
    refine T.skip ?_
    exact ⟨(by exact Sub.rf), ⟨rfl, rfl, rfl, rfl, rfl, rfl, rfl, rfl, rfl, rfl, rfl, rfl, rfl, rfl, rfl, rfl, rfl, trivial⟩⟩
  rintro ρ O ⟨hS, hH⟩
  obtain ⟨ρ0, rfl⟩ := hH.elim
  clear hH
  refine T.sub hS ?_
  refine T.seq (T.seq (T.region ?_))
  refine TO.quiet (q_move rfl) ?_
  refine TO.nil ?_
  refine T.cond rfl (fun hc => ?_) (fun hc => ?_)
  · refine T.seq ?_
    refine T.region ?_
    have hk149 := fun (w1 : World) (hI : Inv w [rowI ub uc 5 1 (byts u), rowI vb vc 5 1 (byts v), oI b7 25 (dC X kX), oI b8 27 (cC A G kA kG), oI b9 27 (cC B H kB kH), dI 54 4 3 X kX, dI 54 4 3 A kA, dI 54 4 3 G kG, dI 54 4 3 B kB, dI 54 4 3 H kH, rowI ib ic 5 1 (byts w9), oI z2 28 [(.int .i64 a1.vars), (.int .i64 a1.start), (.slice j1.nb a1.next.length j1.nc), (.slice j1.fb a1.final.length j1.fc), (.int .i64 g1.vars), (.int .i64 g1.start), (.slice k1.nb g1.next.length k1.nc), (.slice k1.fb g1.final.length k1.fc), (.int .i64 a2.vars), (.int .i64 a2.start), (.slice j2.nb a2.next.length j2.nc), (.slice j2.fb a2.final.length j2.fc), (.int .i64 g2.vars), (.int .i64 g2.start), (.slice k2.nb g2.next.length k2.nc), (.slice k2.fb g2.final.length k2.fc)], oI z1 25 (dC d jd)] w1) => (haveI := Inv.tab (P := Tryd.prog) hI; awakeC w1)
    refine TO.loud rfl (l_call ent15 (CallT.of_pure hk149) rfl ?_)
    clear hk149
    rintro vr O' ⟨N, rfl, rfl, rfl⟩
    refine TO.quiet (q_assign rfl) ?_
    refine TO.nil (T.ret (Res.drop ?_))
    refine Res.one (.bool true) Tryd.results3 rfl ?_
    exact ⟨[], Sub.z, rfl, rfl⟩
  have hnF := hc
  refine T.skip ?_
  refine T.cut (fun ρ O => Sub [rowI ub uc 5 1 (byts u), rowI vb vc 5 1 (byts v), oI b7 25 (dC X kX), oI b8 27 (cC A G kA kG), oI b9 27 (cC B H kB kH), dI 54 4 3 X kX, dI 54 4 3 A kA, dI 54 4 3 G kG, dI 54 4 3 B kB, dI 54 4 3 H kH, rowI ib ic 5 1 (byts w9), oI z2 28 [(.int .i64 a1.vars), (.int .i64 a1.start), (.slice j1.nb a1.next.length j1.nc), (.slice j1.fb a1.final.length j1.fc), (.int .i64 g1.vars), (.int .i64 g1.start), (.slice k1.nb g1.next.length k1.nc), (.slice k1.fb g1.final.length k1.fc), (.int .i64 a2.vars), (.int .i64 a2.start), (.slice j2.nb a2.next.length j2.nc), (.slice j2.fb a2.final.length j2.fc), (.int .i64 g2.vars), (.int .i64 g2.start), (.slice k2.nb g2.next.length k2.nc), (.slice k2.fb g2.final.length k2.fc)], oI z1 25 (dC d jd)] O ∧ Heads [(0, (dV d jd)), (1, (.agg #[(.int .i64 a1.vars), (.int .i64 a1.start), (.slice j1.nb a1.next.length j1.nc), (.slice j1.fb a1.final.length j1.fc), (.int .i64 g1.vars), (.int .i64 g1.start), (.slice k1.nb g1.next.length k1.nc), (.slice k1.fb g1.final.length k1.fc), (.int .i64 a2.vars), (.int .i64 a2.start), (.slice j2.nb a2.next.length j2.nc), (.slice j2.fb a2.final.length j2.fc), (.int .i64 g2.vars), (.int .i64 g2.start), (.slice k2.nb g2.next.length k2.nc), (.slice k2.fb g2.final.length k2.fc)])), (2, (.slice wb lw.length wc)), (3, (.pointer (some ⟨z1, 0, none⟩))), (4, (.pointer (some ⟨z2, 0, none⟩))), (7, (.pointer (some ⟨b7, 0, none⟩))), (8, (.pointer (some ⟨b8, 0, none⟩))), (9, (.pointer (some ⟨b9, 0, none⟩))), (10, (.slice ib w9.length ic)), (11, (.slice vb v.length vc)), (12, .bool bI), (13, .int .i64 0), (14, (.slice ub u.length uc)), (15, .bool bF), (16, .int .i64 0), (17, .bool (t1 || !u1)), (18, .bool (t2 || !u2))] ρ) ?_ ?_
  · refine T.draws [oI b8 27 (cC A G kA kG), oI b9 27 (cC B H kB kH)] [(0, 0), (1, 0), (2, 0), (11, 0), (12, 0), (13, 0), (3, 1), (4, 0), (5, 0), (6, 0), (7, 0), (8, 1), (9, 0), (10, 0), (14, 1), (15, 0), (16, 0), (17, 0), (18, 0), (19, 1), (20, 0), (21, 0), (22, 0), (23, 0)] mixed (drawF_ok (by kernel_rfl)) (by exact Sub.d (.d (.d (.k (.k .z))))) (fun _ _ _ h => h) ?_
    refine DO.quiet rfl (q_fieldAddr Tryd.underlying27 rfl inf25 rfl rfl) (DO.quiet rfl (q_load_part 0 (vs := (dC G kG)) Tryd.underlying25 rfl inf25 rfl rfl rfl rfl) (DO.quiet rfl (q_move rfl) (DO.quiet rfl (q_fieldAddr Tryd.underlying27 rfl inf25 rfl rfl) ?_)))
    refine DO.quiet rfl (q_load_part 1 (vs := (dC H kH)) Tryd.underlying25 rfl inf25 rfl rfl rfl rfl) (DO.quiet rfl (q_move rfl) ?_)
    have hk153 := fun (w1 : World) (hI : Inv w [rowI ub uc 5 1 (byts u), rowI vb vc 5 1 (byts v), oI b7 25 (dC X kX), oI b8 27 (cC A G kA kG), oI b9 27 (cC B H kB kH), dI 54 4 3 X kX, dI 54 4 3 A kA, dI 54 4 3 G kG, dI 54 4 3 B kB, dI 54 4 3 H kH, rowI ib ic 5 1 (byts w9), oI z2 28 [(.int .i64 a1.vars), (.int .i64 a1.start), (.slice j1.nb a1.next.length j1.nc), (.slice j1.fb a1.final.length j1.fc), (.int .i64 g1.vars), (.int .i64 g1.start), (.slice k1.nb g1.next.length k1.nc), (.slice k1.fb g1.final.length k1.fc), (.int .i64 a2.vars), (.int .i64 a2.start), (.slice j2.nb a2.next.length j2.nc), (.slice j2.fb a2.final.length j2.fc), (.int .i64 g2.vars), (.int .i64 g2.start), (.slice k2.nb g2.next.length k2.nc), (.slice k2.fb g2.final.length k2.fc)], oI z1 25 (dC d jd)] w1) => (haveI := Inv.tab (P := Tryd.prog) hI; accF w1 G kG (hI.at (k := kG) (List.mem_of_getElem? (i := 7) rfl)) h.g.bds ub uc u (hI.slOf (List.mem_of_getElem? (i := 0) rfl)) (by omega) iF3 et1)
    refine DO.loud rfl rfl (l_call ent14 (CallT.of_pure hk153) rfl ?_)
    clear hk153
    rintro vr O' ⟨N, rfl, rfl, rfl⟩
    refine ⟨by exact Sub.d (.d (.d (.k (.k .z)))), ?_⟩
    by_cases hs154 : t1 = true
    · refine DO.quiet rfl (QT.toB (q_move rfl) (hs154)) ?_
      refine DO.passed rfl rfl rfl ?_
      refine DO.passed rfl rfl rfl ?_
      refine DO.passed rfl rfl rfl ?_
      refine DO.passedL (by decide) rfl rfl rfl rfl rfl ?_
      refine DO.passed rfl rfl rfl ?_
      refine DO.quiet rfl (q_pick1 rfl rfl) ?_
      have hk164 := fun (w1 : World) (hI : Inv w [rowI ub uc 5 1 (byts u), rowI vb vc 5 1 (byts v), oI b7 25 (dC X kX), oI b8 27 (cC A G kA kG), oI b9 27 (cC B H kB kH), dI 54 4 3 X kX, dI 54 4 3 A kA, dI 54 4 3 G kG, dI 54 4 3 B kB, dI 54 4 3 H kH, rowI ib ic 5 1 (byts w9), oI z2 28 [(.int .i64 a1.vars), (.int .i64 a1.start), (.slice j1.nb a1.next.length j1.nc), (.slice j1.fb a1.final.length j1.fc), (.int .i64 g1.vars), (.int .i64 g1.start), (.slice k1.nb g1.next.length k1.nc), (.slice k1.fb g1.final.length k1.fc), (.int .i64 a2.vars), (.int .i64 a2.start), (.slice j2.nb a2.next.length j2.nc), (.slice j2.fb a2.final.length j2.fc), (.int .i64 g2.vars), (.int .i64 g2.start), (.slice k2.nb g2.next.length k2.nc), (.slice k2.fb g2.final.length k2.fc)], oI z1 25 (dC d jd)] w1) => (haveI := Inv.tab (P := Tryd.prog) hI; accF w1 H kH (hI.at (k := kH) (List.mem_of_getElem? (i := 9) rfl)) h.h.bds ub uc u (hI.slOf (List.mem_of_getElem? (i := 0) rfl)) (by omega) iF3 et2)
      refine DO.loud rfl rfl (l_call ent14 (CallT.of_pure hk164) rfl ?_)
      clear hk164
      rintro vr O' ⟨N, rfl, rfl, rfl⟩
      refine ⟨by exact Sub.d (.d (.d (.k (.k .z)))), ?_⟩
      by_cases hs165 : t2 = true
      · refine DO.quiet rfl (QT.toB (q_move rfl) (hs165)) ?_
        refine DO.passed rfl rfl rfl ?_
        refine DO.passed rfl rfl rfl ?_
        refine DO.passed rfl rfl rfl ?_
        refine DO.passedL (by decide) rfl rfl rfl rfl rfl ?_
        refine DO.passed rfl rfl rfl ?_
        refine DO.quiet rfl (q_pick1 rfl rfl) (DO.quiet rfl (q_assign rfl) (DO.quiet rfl (q_assign rfl) ?_))
        refine DO.done ?_
        exact ⟨(by exact Sub.rf), ⟨rfl, rfl, rfl, rfl, rfl, rfl, rfl, rfl, rfl, rfl, rfl, rfl, rfl, rfl, rfl, (congrArg Value.bool (by first | (rw [hs154]; rfl) | (rw [Bool.eq_false_iff.2 hs154]; rfl))), (congrArg Value.bool (by first | (rw [hs165]; rfl) | (rw [Bool.eq_false_iff.2 hs165]; rfl))), trivial⟩⟩
      refine DO.quiet rfl (QT.toB (q_move rfl) (Bool.eq_false_iff.2 hs165)) ?_
      refine DO.guarded rfl rfl rfl (q_fieldAddr Tryd.underlying27 rfl inf25 rfl rfl) ?_
      refine DO.guarded rfl rfl rfl (q_load_part 1 (vs := (dC B kB)) Tryd.underlying25 rfl inf25 rfl rfl rfl rfl) ?_
      refine DO.guarded rfl rfl rfl (q_move rfl) ?_
      have hk169 := fun (w1 : World) (hI : Inv w [rowI ub uc 5 1 (byts u), rowI vb vc 5 1 (byts v), oI b7 25 (dC X kX), oI b8 27 (cC A G kA kG), oI b9 27 (cC B H kB kH), dI 54 4 3 X kX, dI 54 4 3 A kA, dI 54 4 3 G kG, dI 54 4 3 B kB, dI 54 4 3 H kH, rowI ib ic 5 1 (byts w9), oI z2 28 [(.int .i64 a1.vars), (.int .i64 a1.start), (.slice j1.nb a1.next.length j1.nc), (.slice j1.fb a1.final.length j1.fc), (.int .i64 g1.vars), (.int .i64 g1.start), (.slice k1.nb g1.next.length k1.nc), (.slice k1.fb g1.final.length k1.fc), (.int .i64 a2.vars), (.int .i64 a2.start), (.slice j2.nb a2.next.length j2.nc), (.slice j2.fb a2.final.length j2.fc), (.int .i64 g2.vars), (.int .i64 g2.start), (.slice k2.nb g2.next.length k2.nc), (.slice k2.fb g2.final.length k2.fc)], oI z1 25 (dC d jd)] w1) => (haveI := Inv.tab (P := Tryd.prog) hI; accF w1 B kB (hI.at (k := kB) (List.mem_of_getElem? (i := 8) rfl)) h.b.bds ub uc u (hI.slOf (List.mem_of_getElem? (i := 0) rfl)) (by omega) iF3 eu2)
      refine DO.loudG rfl rfl rfl rfl (l_call ent14 (CallT.of_pure hk169) rfl ?_)
      clear hk169
      rintro vr O' ⟨N, rfl, rfl, rfl⟩
      refine ⟨by exact Sub.d (.d (.d (.k (.k .z)))), ?_⟩
      refine DO.guarded rfl rfl rfl (q_not rfl) ?_
      refine DO.quiet rfl (q_pick0 rfl rfl) (DO.quiet rfl (q_assign rfl) (DO.quiet rfl (q_assign rfl) ?_))
      refine DO.done ?_
      exact ⟨(by exact Sub.rf), ⟨rfl, rfl, rfl, rfl, rfl, rfl, rfl, rfl, rfl, rfl, rfl, rfl, rfl, rfl, rfl, (congrArg Value.bool (by first | (rw [hs154]; rfl) | (rw [Bool.eq_false_iff.2 hs154]; rfl))), (congrArg Value.bool (by first | (rw [hs165]; rfl) | (rw [Bool.eq_false_iff.2 hs165]; rfl))), trivial⟩⟩
    refine DO.quiet rfl (QT.toB (q_move rfl) (Bool.eq_false_iff.2 hs154)) ?_
    refine DO.guarded rfl rfl rfl (q_fieldAddr Tryd.underlying27 rfl inf25 rfl rfl) ?_
    refine DO.guarded rfl rfl rfl (q_load_part 0 (vs := (dC A kA)) Tryd.underlying25 rfl inf25 rfl rfl rfl rfl) ?_
    refine DO.guarded rfl rfl rfl (q_move rfl) ?_
    have hk158 := fun (w1 : World) (hI : Inv w [rowI ub uc 5 1 (byts u), rowI vb vc 5 1 (byts v), oI b7 25 (dC X kX), oI b8 27 (cC A G kA kG), oI b9 27 (cC B H kB kH), dI 54 4 3 X kX, dI 54 4 3 A kA, dI 54 4 3 G kG, dI 54 4 3 B kB, dI 54 4 3 H kH, rowI ib ic 5 1 (byts w9), oI z2 28 [(.int .i64 a1.vars), (.int .i64 a1.start), (.slice j1.nb a1.next.length j1.nc), (.slice j1.fb a1.final.length j1.fc), (.int .i64 g1.vars), (.int .i64 g1.start), (.slice k1.nb g1.next.length k1.nc), (.slice k1.fb g1.final.length k1.fc), (.int .i64 a2.vars), (.int .i64 a2.start), (.slice j2.nb a2.next.length j2.nc), (.slice j2.fb a2.final.length j2.fc), (.int .i64 g2.vars), (.int .i64 g2.start), (.slice k2.nb g2.next.length k2.nc), (.slice k2.fb g2.final.length k2.fc)], oI z1 25 (dC d jd)] w1) => (haveI := Inv.tab (P := Tryd.prog) hI; accF w1 A kA (hI.at (k := kA) (List.mem_of_getElem? (i := 6) rfl)) h.a.bds ub uc u (hI.slOf (List.mem_of_getElem? (i := 0) rfl)) (by omega) iF3 eu1)
    refine DO.loudG rfl rfl rfl rfl (l_call ent14 (CallT.of_pure hk158) rfl ?_)
    clear hk158
    rintro vr O' ⟨N, rfl, rfl, rfl⟩
    refine ⟨by exact Sub.d (.d (.d (.k (.k .z)))), ?_⟩
    refine DO.guarded rfl rfl rfl (q_not rfl) ?_
    refine DO.quiet rfl (q_pick0 rfl rfl) ?_
    have hk164 := fun (w1 : World) (hI : Inv w [rowI ub uc 5 1 (byts u), rowI vb vc 5 1 (byts v), oI b7 25 (dC X kX), oI b8 27 (cC A G kA kG), oI b9 27 (cC B H kB kH), dI 54 4 3 X kX, dI 54 4 3 A kA, dI 54 4 3 G kG, dI 54 4 3 B kB, dI 54 4 3 H kH, rowI ib ic 5 1 (byts w9), oI z2 28 [(.int .i64 a1.vars), (.int .i64 a1.start), (.slice j1.nb a1.next.length j1.nc), (.slice j1.fb a1.final.length j1.fc), (.int .i64 g1.vars), (.int .i64 g1.start), (.slice k1.nb g1.next.length k1.nc), (.slice k1.fb g1.final.length k1.fc), (.int .i64 a2.vars), (.int .i64 a2.start), (.slice j2.nb a2.next.length j2.nc), (.slice j2.fb a2.final.length j2.fc), (.int .i64 g2.vars), (.int .i64 g2.start), (.slice k2.nb g2.next.length k2.nc), (.slice k2.fb g2.final.length k2.fc)], oI z1 25 (dC d jd)] w1) => (haveI := Inv.tab (P := Tryd.prog) hI; accF w1 H kH (hI.at (k := kH) (List.mem_of_getElem? (i := 9) rfl)) h.h.bds ub uc u (hI.slOf (List.mem_of_getElem? (i := 0) rfl)) (by omega) iF3 et2)
    refine DO.loud rfl rfl (l_call ent14 (CallT.of_pure hk164) rfl ?_)
    clear hk164
    rintro vr O' ⟨N, rfl, rfl, rfl⟩
    refine ⟨by exact Sub.d (.d (.d (.k (.k .z)))), ?_⟩
    by_cases hs165 : t2 = true
    · refine DO.quiet rfl (QT.toB (q_move rfl) (hs165)) ?_
      refine DO.passed rfl rfl rfl ?_
      refine DO.passed rfl rfl rfl ?_
      refine DO.passed rfl rfl rfl ?_
      refine DO.passedL (by decide) rfl rfl rfl rfl rfl ?_
      refine DO.passed rfl rfl rfl ?_
      refine DO.quiet rfl (q_pick1 rfl rfl) (DO.quiet rfl (q_assign rfl) (DO.quiet rfl (q_assign rfl) ?_))
      refine DO.done ?_
      exact ⟨(by exact Sub.rf), ⟨rfl, rfl, rfl, rfl, rfl, rfl, rfl, rfl, rfl, rfl, rfl, rfl, rfl, rfl, rfl, (congrArg Value.bool (by first | (rw [hs154]; rfl) | (rw [Bool.eq_false_iff.2 hs154]; rfl))), (congrArg Value.bool (by first | (rw [hs165]; rfl) | (rw [Bool.eq_false_iff.2 hs165]; rfl))), trivial⟩⟩
    refine DO.quiet rfl (QT.toB (q_move rfl) (Bool.eq_false_iff.2 hs165)) ?_
    refine DO.guarded rfl rfl rfl (q_fieldAddr Tryd.underlying27 rfl inf25 rfl rfl) ?_
    refine DO.guarded rfl rfl rfl (q_load_part 1 (vs := (dC B kB)) Tryd.underlying25 rfl inf25 rfl rfl rfl rfl) ?_
    refine DO.guarded rfl rfl rfl (q_move rfl) ?_
    have hk169 := fun (w1 : World) (hI : Inv w [rowI ub uc 5 1 (byts u), rowI vb vc 5 1 (byts v), oI b7 25 (dC X kX), oI b8 27 (cC A G kA kG), oI b9 27 (cC B H kB kH), dI 54 4 3 X kX, dI 54 4 3 A kA, dI 54 4 3 G kG, dI 54 4 3 B kB, dI 54 4 3 H kH, rowI ib ic 5 1 (byts w9), oI z2 28 [(.int .i64 a1.vars), (.int .i64 a1.start), (.slice j1.nb a1.next.length j1.nc), (.slice j1.fb a1.final.length j1.fc), (.int .i64 g1.vars), (.int .i64 g1.start), (.slice k1.nb g1.next.length k1.nc), (.slice k1.fb g1.final.length k1.fc), (.int .i64 a2.vars), (.int .i64 a2.start), (.slice j2.nb a2.next.length j2.nc), (.slice j2.fb a2.final.length j2.fc), (.int .i64 g2.vars), (.int .i64 g2.start), (.slice k2.nb g2.next.length k2.nc), (.slice k2.fb g2.final.length k2.fc)], oI z1 25 (dC d jd)] w1) => (haveI := Inv.tab (P := Tryd.prog) hI; accF w1 B kB (hI.at (k := kB) (List.mem_of_getElem? (i := 8) rfl)) h.b.bds ub uc u (hI.slOf (List.mem_of_getElem? (i := 0) rfl)) (by omega) iF3 eu2)
    refine DO.loudG rfl rfl rfl rfl (l_call ent14 (CallT.of_pure hk169) rfl ?_)
    clear hk169
    rintro vr O' ⟨N, rfl, rfl, rfl⟩
    refine ⟨by exact Sub.d (.d (.d (.k (.k .z)))), ?_⟩
    refine DO.guarded rfl rfl rfl (q_not rfl) ?_
    refine DO.quiet rfl (q_pick0 rfl rfl) (DO.quiet rfl (q_assign rfl) (DO.quiet rfl (q_assign rfl) ?_))
    refine DO.done ?_
    exact ⟨(by exact Sub.rf), ⟨rfl, rfl, rfl, rfl, rfl, rfl, rfl, rfl, rfl, rfl, rfl, rfl, rfl, rfl, rfl, (congrArg Value.bool (by first | (rw [hs154]; rfl) | (rw [Bool.eq_false_iff.2 hs154]; rfl))), (congrArg Value.bool (by first | (rw [hs165]; rfl) | (rw [Bool.eq_false_iff.2 hs165]; rfl))), trivial⟩⟩
  rintro ρ O ⟨hS, hH⟩
  obtain ⟨ρ0, rfl⟩ := hH.elim
  clear hH
  refine T.sub hS ?_
  refine T.seq (T.region ?_)
  refine TO.quiet (q_fieldAddr Tryd.underlying27 rfl inf25 rfl rfl) (TO.quiet (q_load_part 4 (vs := (dC B kB)) Tryd.underlying25 rfl inf25 rfl rfl rfl rfl) (TO.quiet (q_move rfl) ?_))
  have hk175 := fun (w1 : World) (hI : Inv w [rowI ub uc 5 1 (byts u), rowI vb vc 5 1 (byts v), oI b7 25 (dC X kX), oI b8 27 (cC A G kA kG), oI b9 27 (cC B H kB kH), dI 54 4 3 X kX, dI 54 4 3 A kA, dI 54 4 3 G kG, dI 54 4 3 B kB, dI 54 4 3 H kH, rowI ib ic 5 1 (byts w9), oI z2 28 [(.int .i64 a1.vars), (.int .i64 a1.start), (.slice j1.nb a1.next.length j1.nc), (.slice j1.fb a1.final.length j1.fc), (.int .i64 g1.vars), (.int .i64 g1.start), (.slice k1.nb g1.next.length k1.nc), (.slice k1.fb g1.final.length k1.fc), (.int .i64 a2.vars), (.int .i64 a2.start), (.slice j2.nb a2.next.length j2.nc), (.slice j2.fb a2.final.length j2.fc), (.int .i64 g2.vars), (.int .i64 g2.start), (.slice k2.nb g2.next.length k2.nc), (.slice k2.fb g2.final.length k2.fc)], oI z1 25 (dC d jd)] w1) => (haveI := Inv.tab (P := Tryd.prog) hI; accF w1 B kB (hI.at (k := kB) (List.mem_of_getElem? (i := 8) rfl)) h.b.bds ub uc u (hI.slOf (List.mem_of_getElem? (i := 0) rfl)) (by omega) iF3 eu2)
  refine TO.loud rfl (l_call ent14 (CallT.of_pure hk175) rfl ?_)
  clear hk175
  rintro vr O' ⟨N, rfl, rfl, rfl⟩
  by_cases hs176 : u2 = true
  · refine TO.quiet (QT.toB (q_move rfl) (hs176)) ?_
    refine TO.guarded rfl rfl rfl (LT.of_quiet rfl rfl (q_fieldAddr Tryd.underlying27 rfl inf25 rfl rfl) ?_)
    refine TO.guarded rfl rfl rfl (LT.of_quiet rfl rfl (q_load_part 3 (vs := (dC A kA)) Tryd.underlying25 rfl inf25 rfl rfl rfl rfl) ?_)
    refine TO.guarded rfl rfl rfl (LT.of_quiet rfl rfl (q_move rfl) ?_)
    have hk180 := fun (w1 : World) (hI : Inv w [rowI ub uc 5 1 (byts u), rowI vb vc 5 1 (byts v), oI b7 25 (dC X kX), oI b8 27 (cC A G kA kG), oI b9 27 (cC B H kB kH), dI 54 4 3 X kX, dI 54 4 3 A kA, dI 54 4 3 G kG, dI 54 4 3 B kB, dI 54 4 3 H kH, rowI ib ic 5 1 (byts w9), oI z2 28 [(.int .i64 a1.vars), (.int .i64 a1.start), (.slice j1.nb a1.next.length j1.nc), (.slice j1.fb a1.final.length j1.fc), (.int .i64 g1.vars), (.int .i64 g1.start), (.slice k1.nb g1.next.length k1.nc), (.slice k1.fb g1.final.length k1.fc), (.int .i64 a2.vars), (.int .i64 a2.start), (.slice j2.nb a2.next.length j2.nc), (.slice j2.fb a2.final.length j2.fc), (.int .i64 g2.vars), (.int .i64 g2.start), (.slice k2.nb g2.next.length k2.nc), (.slice k2.fb g2.final.length k2.fc)], oI z1 25 (dC d jd)] w1) => (haveI := Inv.tab (P := Tryd.prog) hI; accF w1 A kA (hI.at (k := kA) (List.mem_of_getElem? (i := 6) rfl)) h.a.bds ub uc u (hI.slOf (List.mem_of_getElem? (i := 0) rfl)) (by omega) iF3 eu1)
    refine TO.guarded rfl rfl rfl (l_call ent14 (CallT.of_pure hk180) rfl ?_)
    clear hk180
    rintro vr O' ⟨N, rfl, rfl, rfl⟩
    refine TO.guarded rfl rfl rfl (LT.of_quiet rfl rfl (q_not rfl) ?_)
    refine TO.quiet (q_pick1 rfl rfl) ?_
    by_cases hs183 : (!u1) = true
    · refine TO.quiet (QT.toB (q_move rfl) (hs183)) ?_
      refine TO.passed rfl rfl ?_
      refine TO.passed rfl rfl ?_
      refine TO.passed rfl rfl ?_
      refine TO.passed rfl rfl ?_
      refine TO.passed rfl rfl ?_
      refine TO.quiet (q_pick1 rfl rfl) (TO.quiet (q_move rfl) ?_)
      have hk191 := fun (w1 : World) (hI : Inv w [rowI ub uc 5 1 (byts u), rowI vb vc 5 1 (byts v), oI b7 25 (dC X kX), oI b8 27 (cC A G kA kG), oI b9 27 (cC B H kB kH), dI 54 4 3 X kX, dI 54 4 3 A kA, dI 54 4 3 G kG, dI 54 4 3 B kB, dI 54 4 3 H kH, rowI ib ic 5 1 (byts w9), oI z2 28 [(.int .i64 a1.vars), (.int .i64 a1.start), (.slice j1.nb a1.next.length j1.nc), (.slice j1.fb a1.final.length j1.fc), (.int .i64 g1.vars), (.int .i64 g1.start), (.slice k1.nb g1.next.length k1.nc), (.slice k1.fb g1.final.length k1.fc), (.int .i64 a2.vars), (.int .i64 a2.start), (.slice j2.nb a2.next.length j2.nc), (.slice j2.fb a2.final.length j2.fc), (.int .i64 g2.vars), (.int .i64 g2.start), (.slice k2.nb g2.next.length k2.nc), (.slice k2.fb g2.final.length k2.fc)], oI z1 25 (dC d jd)] w1) => (haveI := Inv.tab (P := Tryd.prog) hI; awakeC w1)
      refine TO.guarded rfl rfl rfl (l_call ent15 (CallT.of_pure hk191) rfl ?_)
      clear hk191
      rintro vr O' ⟨N, rfl, rfl, rfl⟩
      refine TO.quiet (q_pick1 rfl rfl) (TO.quiet (q_assign rfl) ?_)
      refine TO.nil (T.ret (Res.drop ?_))
      refine Res.one (.bool true) Tryd.results3 rfl ?_
      exact ⟨[], Sub.z, rfl, rfl⟩
    refine TO.quiet (QT.toB (q_move rfl) (Bool.eq_false_iff.2 hs183)) ?_
    refine TO.guarded rfl rfl rfl (LT.of_quiet rfl rfl (q_move rfl) ?_)
    by_cases hs185 : (t1 || !u1) = true
    · refine TO.guarded rfl rfl rfl (LT.of_quiet rfl rfl (QT.toB (q_move rfl) (hs185)) ?_)
      refine TO.guarded rfl rfl rfl (LT.of_quiet rfl rfl (q_move rfl) ?_)
      refine TO.guarded rfl rfl rfl (LT.of_quiet rfl rfl (q_not rfl) ?_)
      refine TO.guarded rfl rfl rfl (LT.of_quiet rfl rfl (q_pick1 rfl rfl) ?_)
      refine TO.quiet (q_pick0 rfl rfl) ?_
      by_cases hs190 : ((!(t2 || !u2))) = true
      · refine TO.quiet (QT.toB (q_move rfl) (hs190)) ?_
        have hk191 := fun (w1 : World) (hI : Inv w [rowI ub uc 5 1 (byts u), rowI vb vc 5 1 (byts v), oI b7 25 (dC X kX), oI b8 27 (cC A G kA kG), oI b9 27 (cC B H kB kH), dI 54 4 3 X kX, dI 54 4 3 A kA, dI 54 4 3 G kG, dI 54 4 3 B kB, dI 54 4 3 H kH, rowI ib ic 5 1 (byts w9), oI z2 28 [(.int .i64 a1.vars), (.int .i64 a1.start), (.slice j1.nb a1.next.length j1.nc), (.slice j1.fb a1.final.length j1.fc), (.int .i64 g1.vars), (.int .i64 g1.start), (.slice k1.nb g1.next.length k1.nc), (.slice k1.fb g1.final.length k1.fc), (.int .i64 a2.vars), (.int .i64 a2.start), (.slice j2.nb a2.next.length j2.nc), (.slice j2.fb a2.final.length j2.fc), (.int .i64 g2.vars), (.int .i64 g2.start), (.slice k2.nb g2.next.length k2.nc), (.slice k2.fb g2.final.length k2.fc)], oI z1 25 (dC d jd)] w1) => (haveI := Inv.tab (P := Tryd.prog) hI; awakeC w1)
        refine TO.guarded rfl rfl rfl (l_call ent15 (CallT.of_pure hk191) rfl ?_)
        clear hk191
        rintro vr O' ⟨N, rfl, rfl, rfl⟩
        refine TO.quiet (q_pick1 rfl rfl) (TO.quiet (q_assign rfl) ?_)
        refine TO.nil (T.ret (Res.drop ?_))
        refine Res.one (.bool true) Tryd.results3 rfl ?_
        exact ⟨[], Sub.z, rfl, rfl⟩
      refine TO.quiet (QT.toB (q_move rfl) (Bool.eq_false_iff.2 hs190)) ?_
      refine TO.passed rfl rfl ?_
      refine TO.quiet (q_pick0 rfl rfl) (TO.quiet (q_assign rfl) ?_)
      refine TO.nil (T.ret (Res.drop ?_))
      refine Res.one (.bool false) Tryd.results3 rfl ?_
      exact absurd (show False by first | (have h4 := iF4 hnF; clear iI4 iF4 iI1 iF1; simp_all; done) | (clear iI4 iF4 iI1 iF1; have h1 := h.f1; have h2 := h.f2; have h3 := h.f3; simp_all)) not_false
    refine TO.guarded rfl rfl rfl (LT.of_quiet rfl rfl (QT.toB (q_move rfl) (Bool.eq_false_iff.2 hs185)) ?_)
    refine TO.passed rfl rfl ?_
    refine TO.passed rfl rfl ?_
    refine TO.guarded rfl rfl rfl (LT.of_quiet rfl rfl (q_pick0 rfl rfl) ?_)
    refine TO.quiet (q_pick0 rfl rfl) (TO.quiet (q_move rfl) ?_)
    refine TO.passed rfl rfl ?_
    refine TO.quiet (q_pick0 rfl rfl) (TO.quiet (q_assign rfl) ?_)
    refine TO.nil (T.ret (Res.drop ?_))
    refine Res.one (.bool false) Tryd.results3 rfl ?_
    exact absurd (show False by first | (have h4 := iF4 hnF; clear iI4 iF4 iI1 iF1; simp_all; done) | (clear iI4 iF4 iI1 iF1; have h1 := h.f1; have h2 := h.f2; have h3 := h.f3; simp_all)) not_false
  refine TO.quiet (QT.toB (q_move rfl) (Bool.eq_false_iff.2 hs176)) ?_
  refine TO.passed rfl rfl ?_
  refine TO.passed rfl rfl ?_
  refine TO.passed rfl rfl ?_
  refine TO.passed rfl rfl ?_
  refine TO.passed rfl rfl ?_
  refine TO.quiet (q_pick0 rfl rfl) (TO.quiet (q_move rfl) ?_)
  refine TO.guarded rfl rfl rfl (LT.of_quiet rfl rfl (q_move rfl) ?_)
  by_cases hs185 : (t1 || !u1) = true
  · refine TO.guarded rfl rfl rfl (LT.of_quiet rfl rfl (QT.toB (q_move rfl) (hs185)) ?_)
    refine TO.guarded rfl rfl rfl (LT.of_quiet rfl rfl (q_move rfl) ?_)
    refine TO.guarded rfl rfl rfl (LT.of_quiet rfl rfl (q_not rfl) ?_)
    refine TO.guarded rfl rfl rfl (LT.of_quiet rfl rfl (q_pick1 rfl rfl) ?_)
    refine TO.quiet (q_pick0 rfl rfl) ?_
    by_cases hs190 : ((!(t2 || !u2))) = true
    · refine TO.quiet (QT.toB (q_move rfl) (hs190)) ?_
      have hk191 := fun (w1 : World) (hI : Inv w [rowI ub uc 5 1 (byts u), rowI vb vc 5 1 (byts v), oI b7 25 (dC X kX), oI b8 27 (cC A G kA kG), oI b9 27 (cC B H kB kH), dI 54 4 3 X kX, dI 54 4 3 A kA, dI 54 4 3 G kG, dI 54 4 3 B kB, dI 54 4 3 H kH, rowI ib ic 5 1 (byts w9), oI z2 28 [(.int .i64 a1.vars), (.int .i64 a1.start), (.slice j1.nb a1.next.length j1.nc), (.slice j1.fb a1.final.length j1.fc), (.int .i64 g1.vars), (.int .i64 g1.start), (.slice k1.nb g1.next.length k1.nc), (.slice k1.fb g1.final.length k1.fc), (.int .i64 a2.vars), (.int .i64 a2.start), (.slice j2.nb a2.next.length j2.nc), (.slice j2.fb a2.final.length j2.fc), (.int .i64 g2.vars), (.int .i64 g2.start), (.slice k2.nb g2.next.length k2.nc), (.slice k2.fb g2.final.length k2.fc)], oI z1 25 (dC d jd)] w1) => (haveI := Inv.tab (P := Tryd.prog) hI; awakeC w1)
      refine TO.guarded rfl rfl rfl (l_call ent15 (CallT.of_pure hk191) rfl ?_)
      clear hk191
      rintro vr O' ⟨N, rfl, rfl, rfl⟩
      refine TO.quiet (q_pick1 rfl rfl) (TO.quiet (q_assign rfl) ?_)
      refine TO.nil (T.ret (Res.drop ?_))
      refine Res.one (.bool true) Tryd.results3 rfl ?_
      exact ⟨[], Sub.z, rfl, rfl⟩
    refine TO.quiet (QT.toB (q_move rfl) (Bool.eq_false_iff.2 hs190)) ?_
    refine TO.passed rfl rfl ?_
    refine TO.quiet (q_pick0 rfl rfl) (TO.quiet (q_assign rfl) ?_)
    refine TO.nil (T.ret (Res.drop ?_))
    refine Res.one (.bool false) Tryd.results3 rfl ?_
    exact absurd (show False by first | (have h4 := iF4 hnF; clear iI4 iF4 iI1 iF1; simp_all; done) | (clear iI4 iF4 iI1 iF1; have h1 := h.f1; have h2 := h.f2; have h3 := h.f3; simp_all)) not_false
  refine TO.guarded rfl rfl rfl (LT.of_quiet rfl rfl (QT.toB (q_move rfl) (Bool.eq_false_iff.2 hs185)) ?_)
  refine TO.passed rfl rfl ?_
  refine TO.passed rfl rfl ?_
  refine TO.guarded rfl rfl rfl (LT.of_quiet rfl rfl (q_pick0 rfl rfl) ?_)
  refine TO.quiet (q_pick0 rfl rfl) (TO.quiet (q_move rfl) ?_)
  refine TO.passed rfl rfl ?_
  refine TO.quiet (q_pick0 rfl rfl) (TO.quiet (q_assign rfl) ?_)
  refine TO.nil (T.ret (Res.drop ?_))
  refine Res.one (.bool false) Tryd.results3 rfl ?_
  exact absurd (show False by first | (have h4 := iF4 hnF; clear iI4 iF4 iI1 iF1; simp_all; done) | (clear iI4 iF4 iI1 iF1; have h1 := h.f1; have h2 := h.f2; have h3 := h.f3; simp_all)) not_false
end Go.Proofs.YtnpehjpookcfkaaDoor

