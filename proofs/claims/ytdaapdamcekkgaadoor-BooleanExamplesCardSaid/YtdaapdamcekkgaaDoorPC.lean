/- Contracts of functions of the program (PC): what each call answers and that it leaves memory as it was. Conditions: those each theorem names. -/
import Derived.Test.YtdaapdamcekkgaaDoorPB
import Derived.Test.YtdaapdamcekkgaaDoorBolE
set_option linter.unusedSectionVars false
set_option linter.unusedSimpArgs false
set_option linter.unusedVariables false
set_option linter.unnecessarySimpa false
namespace Go.Proofs.YtdaapdamcekkgaaDoor
open Go.Lx Go.RowKit
set_option linter.unusedVariables false
set_option linter.unusedSimpArgs false
set_option maxHeartbeats 1000000 in
set_option maxRecDepth 20000 in
theorem andBig (w : World) (a b : DFA) (j k : DK) (ha : At w a j) (hb : At w b k) (va : Valid a) (vb : Valid b) (hv : a.vars = b.vars) (hbig : 4096 < (order (prodD andB a b)).length) :
    PureT Tryd.prog 22 [dV a j, dV b k] w fun v N => v = .tuple #[dV noD k00, .int .i64 10] ∧ N = [] := by
  refine CallT.enter Tryd.func22 rfl Tryd.ntmps22 rfl ?_
  refine T.seq (T.region ?_)
  refine TO.loud rfl (l_box (v := (dV a j)) (cs := (dC a j)) rfl rfl (fun bx1 => ?_))
  refine TO.loud rfl (l_box (v := (dV b k)) (cs := (dC b k)) rfl rfl (fun bx2 => ?_))
  refine TO.loud rfl (l_alloc inf25 rfl (fun bx3 => ?_))
  refine TO.quiet (q_assign rfl) ?_
  refine TO.nil (T.seq (T.region ?_))
  refine TO.quiet (q_load_boxAgg 2 Tryd.underlying25 rfl inf25 rfl rfl rfl) (TO.quiet (q_load_boxAgg 1 Tryd.underlying25 rfl inf25 rfl rfl rfl) ?_)
  have hk8 := fun (w1 : World) (hI : Inv w [oI bx3 25 [(.int .i64 0), (.int .i64 0), (.slice none 0 0), (.slice none 0 0)], oI bx2 25 (dC b k), oI bx1 25 (dC a j)] w1) => combineBig w1 a b j k (hI.atB ha) (hI.atB hb) va vb hv andB 56 andFV hbig
  refine TO.loud rfl (l_call ent43 (CallT.of_pure hk8) rfl ?_)
  clear hk8
  rintro vr O' ⟨N, rfl, rfl, rfl⟩
  refine TO.quiet (q_extract (vs := _) rfl rfl) (TO.quiet (q_extract (vs := _) rfl rfl) ?_)
  refine TO.loud rfl (l_store_box (v := (dV noD k00)) (vs := (dC noD k00)) 0 inf25 rfl rfl rfl rfl rfl rfl (by simp [putL]) ?_)
  refine TO.quiet (q_assign rfl) ?_
  refine TO.nil (T.ret (Res.drop ?_))
  refine Res.cell1b (.int .i64 10) (i := 0) Tryd.results22 Tryd.underlying25 rfl inf25 rfl rfl rfl rfl ?_
  exact ⟨[], Sub.z, rfl, rfl⟩
set_option maxHeartbeats 1000000 in
set_option maxRecDepth 20000 in
theorem orBig (w : World) (a b : DFA) (j k : DK) (ha : At w a j) (hb : At w b k) (va : Valid a) (vb : Valid b) (hv : a.vars = b.vars) (hbig : 4096 < (order (prodD orB a b)).length) :
    PureT Tryd.prog 23 [dV a j, dV b k] w fun v N => v = .tuple #[dV noD k00, .int .i64 10] ∧ N = [] := by
  refine CallT.enter Tryd.func23 rfl Tryd.ntmps23 rfl ?_
  refine T.seq (T.region ?_)
  refine TO.loud rfl (l_box (v := (dV a j)) (cs := (dC a j)) rfl rfl (fun bx1 => ?_))
  refine TO.loud rfl (l_box (v := (dV b k)) (cs := (dC b k)) rfl rfl (fun bx2 => ?_))
  refine TO.loud rfl (l_alloc inf25 rfl (fun bx3 => ?_))
  refine TO.quiet (q_assign rfl) ?_
  refine TO.nil (T.seq (T.region ?_))
  refine TO.quiet (q_load_boxAgg 2 Tryd.underlying25 rfl inf25 rfl rfl rfl) (TO.quiet (q_load_boxAgg 1 Tryd.underlying25 rfl inf25 rfl rfl rfl) ?_)
  have hk8 := fun (w1 : World) (hI : Inv w [oI bx3 25 [(.int .i64 0), (.int .i64 0), (.slice none 0 0), (.slice none 0 0)], oI bx2 25 (dC b k), oI bx1 25 (dC a j)] w1) => combineBig w1 a b j k (hI.atB ha) (hI.atB hb) va vb hv orB 57 orFV hbig
  refine TO.loud rfl (l_call ent43 (CallT.of_pure hk8) rfl ?_)
  clear hk8
  rintro vr O' ⟨N, rfl, rfl, rfl⟩
  refine TO.quiet (q_extract (vs := _) rfl rfl) (TO.quiet (q_extract (vs := _) rfl rfl) ?_)
  refine TO.loud rfl (l_store_box (v := (dV noD k00)) (vs := (dC noD k00)) 0 inf25 rfl rfl rfl rfl rfl rfl (by simp [putL]) ?_)
  refine TO.quiet (q_assign rfl) ?_
  refine TO.nil (T.ret (Res.drop ?_))
  refine Res.cell1b (.int .i64 10) (i := 0) Tryd.results23 Tryd.underlying25 rfl inf25 rfl rfl rfl rfl ?_
  exact ⟨[], Sub.z, rfl, rfl⟩
set_option maxHeartbeats 1000000 in
set_option maxRecDepth 20000 in
theorem xorBig (w : World) (a b : DFA) (j k : DK) (ha : At w a j) (hb : At w b k) (va : Valid a) (vb : Valid b) (hv : a.vars = b.vars) (hbig : 4096 < (order (prodD xorB a b)).length) :
    PureT Tryd.prog 24 [dV a j, dV b k] w fun v N => v = .tuple #[dV noD k00, .int .i64 10] ∧ N = [] := by
  refine CallT.enter Tryd.func24 rfl Tryd.ntmps24 rfl ?_
  refine T.seq (T.region ?_)
  refine TO.loud rfl (l_box (v := (dV a j)) (cs := (dC a j)) rfl rfl (fun bx1 => ?_))
  refine TO.loud rfl (l_box (v := (dV b k)) (cs := (dC b k)) rfl rfl (fun bx2 => ?_))
  refine TO.loud rfl (l_alloc inf25 rfl (fun bx3 => ?_))
  refine TO.quiet (q_assign rfl) ?_
  refine TO.nil (T.seq (T.region ?_))
  refine TO.quiet (q_load_boxAgg 2 Tryd.underlying25 rfl inf25 rfl rfl rfl) (TO.quiet (q_load_boxAgg 1 Tryd.underlying25 rfl inf25 rfl rfl rfl) ?_)
  have hk8 := fun (w1 : World) (hI : Inv w [oI bx3 25 [(.int .i64 0), (.int .i64 0), (.slice none 0 0), (.slice none 0 0)], oI bx2 25 (dC b k), oI bx1 25 (dC a j)] w1) => combineBig w1 a b j k (hI.atB ha) (hI.atB hb) va vb hv xorB 58 xorFV hbig
  refine TO.loud rfl (l_call ent43 (CallT.of_pure hk8) rfl ?_)
  clear hk8
  rintro vr O' ⟨N, rfl, rfl, rfl⟩
  refine TO.quiet (q_extract (vs := _) rfl rfl) (TO.quiet (q_extract (vs := _) rfl rfl) ?_)
  refine TO.loud rfl (l_store_box (v := (dV noD k00)) (vs := (dC noD k00)) 0 inf25 rfl rfl rfl rfl rfl rfl (by simp [putL]) ?_)
  refine TO.quiet (q_assign rfl) ?_
  refine TO.nil (T.ret (Res.drop ?_))
  refine Res.cell1b (.int .i64 10) (i := 0) Tryd.results24 Tryd.underlying25 rfl inf25 rfl rfl rfl rfl ?_
  exact ⟨[], Sub.z, rfl, rfl⟩
set_option maxHeartbeats 1000000 in
set_option maxRecDepth 20000 in
theorem minusBig (w : World) (a b : DFA) (j k : DK) (ha : At w a j) (hb : At w b k) (va : Valid a) (vb : Valid b) (hv : a.vars = b.vars) (hbig : 4096 < (order (prodD minusB a b)).length) :
    PureT Tryd.prog 25 [dV a j, dV b k] w fun v N => v = .tuple #[dV noD k00, .int .i64 10] ∧ N = [] := by
  refine CallT.enter Tryd.func25 rfl Tryd.ntmps25 rfl ?_
  refine T.seq (T.region ?_)
  refine TO.loud rfl (l_box (v := (dV a j)) (cs := (dC a j)) rfl rfl (fun bx1 => ?_))
  refine TO.loud rfl (l_box (v := (dV b k)) (cs := (dC b k)) rfl rfl (fun bx2 => ?_))
  refine TO.loud rfl (l_alloc inf25 rfl (fun bx3 => ?_))
  refine TO.quiet (q_assign rfl) ?_
  refine TO.nil (T.seq (T.region ?_))
  refine TO.quiet (q_load_boxAgg 2 Tryd.underlying25 rfl inf25 rfl rfl rfl) (TO.quiet (q_load_boxAgg 1 Tryd.underlying25 rfl inf25 rfl rfl rfl) ?_)
  have hk8 := fun (w1 : World) (hI : Inv w [oI bx3 25 [(.int .i64 0), (.int .i64 0), (.slice none 0 0), (.slice none 0 0)], oI bx2 25 (dC b k), oI bx1 25 (dC a j)] w1) => combineBig w1 a b j k (hI.atB ha) (hI.atB hb) va vb hv minusB 59 minusFV hbig
  refine TO.loud rfl (l_call ent43 (CallT.of_pure hk8) rfl ?_)
  clear hk8
  rintro vr O' ⟨N, rfl, rfl, rfl⟩
  refine TO.quiet (q_extract (vs := _) rfl rfl) (TO.quiet (q_extract (vs := _) rfl rfl) ?_)
  refine TO.loud rfl (l_store_box (v := (dV noD k00)) (vs := (dC noD k00)) 0 inf25 rfl rfl rfl rfl rfl rfl (by simp [putL]) ?_)
  refine TO.quiet (q_assign rfl) ?_
  refine TO.nil (T.ret (Res.drop ?_))
  refine Res.cell1b (.int .i64 10) (i := 0) Tryd.results25 Tryd.underlying25 rfl inf25 rfl rfl rfl rfl ?_
  exact ⟨[], Sub.z, rfl, rfl⟩
set_option maxHeartbeats 1000000 in
set_option maxRecDepth 20000 in
theorem applyBig (w : World) (op : Int) (a b : DFA) (j k : DK) (ha : At w a j) (hb : At w b k) (va : Valid a) (vb : Valid b) (hv : a.vars = b.vars) (hbig : ∀ f, 4096 < (order (prodD f a b)).length) :
    PureT Tryd.prog 18 [.int .i64 op, dV a j, dV b k] w fun v N => v = .tuple #[dV noD k00, .int .i64 10] ∧ N = [] := by
  refine CallT.enter Tryd.func18 rfl Tryd.ntmps18 rfl ?_
  refine T.seq (T.region ?_)
  refine TO.loud rfl (l_box (v := (dV a j)) (cs := (dC a j)) rfl rfl (fun bx1 => ?_))
  refine TO.loud rfl (l_box (v := (dV b k)) (cs := (dC b k)) rfl rfl (fun bx2 => ?_))
  refine TO.loud rfl (l_alloc inf25 rfl (fun bx3 => ?_))
  refine TO.quiet (q_assign rfl) ?_
  refine TO.nil (T.seq (T.seq (T.region ?_)))
  refine TO.quiet (q_move rfl) ?_
  refine TO.nil (T.block (T.seq (T.region ?_)))
  refine TO.quiet (q_eql rfl rfl) (TO.quiet (q_assign rfl) ?_)
  refine TO.nil ?_
  refine T.condP rfl (fun hc => ?_) (fun hc => ?_)
  · refine T.seq ?_
    refine T.region ?_
    refine TO.quiet (q_load_boxAgg 2 Tryd.underlying25 rfl inf25 rfl rfl rfl) (TO.quiet (q_load_boxAgg 1 Tryd.underlying25 rfl inf25 rfl rfl rfl) ?_)
    have hk13 := fun (w1 : World) (hI : Inv w [oI bx3 25 [(.int .i64 0), (.int .i64 0), (.slice none 0 0), (.slice none 0 0)], oI bx2 25 (dC b k), oI bx1 25 (dC a j)] w1) => andBig w1 a b j k (hI.atB ha) (hI.atB hb) va vb hv (hbig _)
    refine TO.loud rfl (l_call ent22 (CallT.of_pure hk13) rfl ?_)
    clear hk13
    rintro vr O' ⟨N, rfl, rfl, rfl⟩
    refine TO.quiet (q_extract (vs := _) rfl rfl) (TO.quiet (q_extract (vs := _) rfl rfl) ?_)
    refine TO.loud rfl (l_store_box (v := (dV noD k00)) (vs := (dC noD k00)) 0 inf25 rfl rfl rfl rfl rfl rfl (by simp [putL]) ?_)
    refine TO.quiet (q_assign rfl) ?_
    refine TO.nil (T.ret (Res.drop ?_))
    refine Res.cell1b (.int .i64 10) (i := 0) Tryd.results18 Tryd.underlying25 rfl inf25 rfl rfl rfl rfl ?_
    exact ⟨[], Sub.z, rfl, rfl⟩
  refine T.seq (T.region ?_)
  refine TO.quiet (q_eql rfl rfl) (TO.quiet (q_assign rfl) ?_)
  refine TO.nil ?_
  refine T.condP rfl (fun hc => ?_) (fun hc => ?_)
  · refine T.seq ?_
    refine T.region ?_
    refine TO.quiet (q_load_boxAgg 2 Tryd.underlying25 rfl inf25 rfl rfl rfl) (TO.quiet (q_load_boxAgg 1 Tryd.underlying25 rfl inf25 rfl rfl rfl) ?_)
    have hk20 := fun (w1 : World) (hI : Inv w [oI bx3 25 [(.int .i64 0), (.int .i64 0), (.slice none 0 0), (.slice none 0 0)], oI bx2 25 (dC b k), oI bx1 25 (dC a j)] w1) => orBig w1 a b j k (hI.atB ha) (hI.atB hb) va vb hv (hbig _)
    refine TO.loud rfl (l_call ent23 (CallT.of_pure hk20) rfl ?_)
    clear hk20
    rintro vr O' ⟨N, rfl, rfl, rfl⟩
    refine TO.quiet (q_extract (vs := _) rfl rfl) (TO.quiet (q_extract (vs := _) rfl rfl) ?_)
    refine TO.loud rfl (l_store_box (v := (dV noD k00)) (vs := (dC noD k00)) 0 inf25 rfl rfl rfl rfl rfl rfl (by simp [putL]) ?_)
    refine TO.quiet (q_assign rfl) ?_
    refine TO.nil (T.ret (Res.drop ?_))
    refine Res.cell1b (.int .i64 10) (i := 0) Tryd.results18 Tryd.underlying25 rfl inf25 rfl rfl rfl rfl ?_
    exact ⟨[], Sub.z, rfl, rfl⟩
  refine T.seq (T.region ?_)
  refine TO.quiet (q_eql rfl rfl) (TO.quiet (q_assign rfl) ?_)
  refine TO.nil ?_
  refine T.condP rfl (fun hc => ?_) (fun hc => ?_)
  · refine T.seq ?_
    refine T.region ?_
    refine TO.quiet (q_load_boxAgg 2 Tryd.underlying25 rfl inf25 rfl rfl rfl) (TO.quiet (q_load_boxAgg 1 Tryd.underlying25 rfl inf25 rfl rfl rfl) ?_)
    have hk27 := fun (w1 : World) (hI : Inv w [oI bx3 25 [(.int .i64 0), (.int .i64 0), (.slice none 0 0), (.slice none 0 0)], oI bx2 25 (dC b k), oI bx1 25 (dC a j)] w1) => xorBig w1 a b j k (hI.atB ha) (hI.atB hb) va vb hv (hbig _)
    refine TO.loud rfl (l_call ent24 (CallT.of_pure hk27) rfl ?_)
    clear hk27
    rintro vr O' ⟨N, rfl, rfl, rfl⟩
    refine TO.quiet (q_extract (vs := _) rfl rfl) (TO.quiet (q_extract (vs := _) rfl rfl) ?_)
    refine TO.loud rfl (l_store_box (v := (dV noD k00)) (vs := (dC noD k00)) 0 inf25 rfl rfl rfl rfl rfl rfl (by simp [putL]) ?_)
    refine TO.quiet (q_assign rfl) ?_
    refine TO.nil (T.ret (Res.drop ?_))
    refine Res.cell1b (.int .i64 10) (i := 0) Tryd.results18 Tryd.underlying25 rfl inf25 rfl rfl rfl rfl ?_
    exact ⟨[], Sub.z, rfl, rfl⟩
  refine T.skip (T.seq (T.region ?_))
  refine TO.quiet (q_load_boxAgg 2 Tryd.underlying25 rfl inf25 rfl rfl rfl) (TO.quiet (q_load_boxAgg 1 Tryd.underlying25 rfl inf25 rfl rfl rfl) ?_)
  have hk32 := fun (w1 : World) (hI : Inv w [oI bx3 25 [(.int .i64 0), (.int .i64 0), (.slice none 0 0), (.slice none 0 0)], oI bx2 25 (dC b k), oI bx1 25 (dC a j)] w1) => minusBig w1 a b j k (hI.atB ha) (hI.atB hb) va vb hv (hbig _)
  refine TO.loud rfl (l_call ent25 (CallT.of_pure hk32) rfl ?_)
  clear hk32
  rintro vr O' ⟨N, rfl, rfl, rfl⟩
  refine TO.quiet (q_extract (vs := _) rfl rfl) (TO.quiet (q_extract (vs := _) rfl rfl) ?_)
  refine TO.loud rfl (l_store_box (v := (dV noD k00)) (vs := (dC noD k00)) 0 inf25 rfl rfl rfl rfl rfl rfl (by simp [putL]) ?_)
  refine TO.quiet (q_assign rfl) ?_
  refine TO.nil (T.ret (Res.drop ?_))
  refine Res.cell1b (.int .i64 10) (i := 0) Tryd.results18 Tryd.underlying25 rfl inf25 rfl rfl rfl rfl ?_
  exact ⟨[], Sub.z, rfl, rfl⟩
set_option maxHeartbeats 1000000 in
set_option maxRecDepth 20000 in
theorem eqlBig (w : World) (a b : DFA) (j k : DK) (ha : At w a j) (hb : At w b k) (va : Valid a) (vb : Valid b) (hv : a.vars = b.vars) (hbig : 4096 < (order (prodD xorB a b)).length) :
    PureT Tryd.prog 27 [dV a j, dV b k] w fun v N => v = .tuple #[.bool false, .int .i64 10] ∧ N = [] := by
  refine CallT.enter Tryd.func27 rfl Tryd.ntmps27 rfl ?_
  refine T.seq (T.region ?_)
  refine TO.loud rfl (l_box (v := (dV a j)) (cs := (dC a j)) rfl rfl (fun bx1 => ?_))
  refine TO.loud rfl (l_box (v := (dV b k)) (cs := (dC b k)) rfl rfl (fun bx2 => ?_))
  refine TO.quiet (q_assign rfl) (TO.quiet (q_assign rfl) ?_)
  refine TO.nil (T.seq (T.region ?_))
  refine TO.quiet (q_load_boxAgg 1 Tryd.underlying25 rfl inf25 rfl rfl rfl) (TO.quiet (q_load_boxAgg 0 Tryd.underlying25 rfl inf25 rfl rfl rfl) ?_)
  have hk11 := fun (w1 : World) (hI : Inv w [oI bx2 25 (dC b k), oI bx1 25 (dC a j)] w1) => xorBig w1 a b j k (hI.atB ha) (hI.atB hb) va vb hv hbig
  refine TO.loud rfl (l_call ent24 (CallT.of_pure hk11) rfl ?_)
  clear hk11
  rintro vr O' ⟨N, rfl, rfl, rfl⟩
  refine TO.quiet (q_move rfl) (TO.quiet (q_extract (vs := _) rfl rfl) (TO.quiet (q_extract (vs := _) rfl rfl) ?_))
  refine TO.loud rfl (l_alloc inf25 rfl (fun bx3 => ?_))
  refine TO.loud rfl (l_store_box (v := (dV noD k00)) (vs := (dC noD k00)) 0 inf25 rfl rfl rfl rfl rfl rfl (by simp [putL]) ?_)
  refine TO.quiet (q_assign rfl) ?_
  refine TO.nil (T.seq (T.seq (T.region ?_)))
  refine TO.quiet (q_move rfl) (TO.quiet (q_neq rfl rfl) ?_)
  refine TO.nil ?_
  refine T.cond1 rfl ?_
  refine T.seq (T.region ?_)
  refine TO.quiet (q_move rfl) (TO.quiet (q_assign rfl) (TO.quiet (q_assign rfl) ?_))
  refine TO.nil (T.ret (Res.drop ?_))
  refine Res.two (.bool false) (.int .i64 10) Tryd.results27 rfl rfl ?_
  exact ⟨[], Sub.z, rfl, rfl⟩
set_option maxHeartbeats 1000000 in
set_option maxRecDepth 20000 in
theorem cycK (w : World) (n : Nat) (h1 : 1 ≤ n) (h2 : n ≤ 4096) : PureT Tryd.prog 35 [.int .i64 ((n : Nat) : Int)] w fun v N => ∃ k' : DK, v = dV (cycD n) k' ∧ N = [dI 52 4 3 (cycD n) k'] := by
  refine CallT.enter Tryd.func35 rfl Tryd.ntmps35 rfl ?_
  refine T.seq (T.region ?_)
  refine TO.loud rfl (l_alloc inf25 rfl (fun z1 => ?_))
  refine TO.nil (T.seq (T.region ?_))
  refine TO.loud rfl (l_alloc inf25 rfl (fun z2 => ?_))
  refine TO.nil (T.seq (T.seq (T.region ?_)))
  refine TO.quiet (q_assign rfl) ?_
  refine TO.nil (T.block ?_)
  refine T.nilRow 4 1 ?_
  refine T.nilRow 52 1 ?_
  refine T.loop (fun (s : Nat) ρ O => ∃ (nbm fbm : Option Addr) (ncm fcm n1 n2 : Nat) (qs : List Rec) (fs : List Bool), O = ([rowI nbm ncm 52 1 (vals qs), rowI fbm fcm 4 1 (bools fs), oI z2 25 [(.int .i64 0), (.int .i64 0), (.slice nbm n1 ncm), (.slice fbm n2 fcm)], oI z1 25 [(.int .i64 0), (.int .i64 0), (.slice none 0 0), (.slice none 0 0)]] ++ (itms 3 qs)) ∧ s ≤ n ∧ n1 = s ∧ n2 = s ∧ qs.length = s ∧ fs.length = s ∧ nums qs = ((List.range n).map fun s => [(((s + 1) % n : Nat) : Int)]).take s ∧ fs = ((List.range n).map fun s => decide (((s : Nat) : Int) = 0)).take s ∧ Heads [(0, .int .i64 ((n : Nat) : Int)), (2, (.pointer (some ⟨z1, 0, none⟩))), (3, (.pointer (some ⟨z2, 0, none⟩))), (4, .int .i64 ((s : Nat) : Int))] ρ) (fun s => n - s) 0 ?_ ?_
  · exact ⟨none, none, 0, 0, 0, 0, [], [], rfl, Nat.zero_le _, rfl, rfl, rfl, rfl, by simp, by simp, ⟨rfl, rfl, rfl, rfl, trivial⟩⟩
  rintro s ρ O ⟨nbm, fbm, ncm, fcm, n1, n2, qs, fs, rfl, hs, hn1, hn2, hql, hfl, hqs, hfs, hH⟩
  obtain ⟨ρ0, rfl⟩ := hH.elim
  clear hH
  refine T.seq (T.seq (T.region ?_))
  refine TO.quiet (q_move rfl) (TO.quiet (q_move rfl) (TO.quiet (q_lss rfl rfl) ?_))
  refine TO.nil ?_
  refine T.condP rfl (fun hc => ?_) (fun hc => ?_)
  · have hlt7 : s < n := by omega
    refine T.skip (T.seq (T.block ?_))
    refine T.cut1 (fun ρ O => ∃ (nb2 fb2 : Option Addr) (nc2 fc2 tr : Nat), O = ([rowI nb2 nc2 52 1 ((vals qs) ++ [(.slice (some ⟨tr, 0, none⟩) 1 1)]), rowI fb2 fc2 4 1 ((bools fs) ++ [.bool (decide (((s : Nat) : Int) = 0))]), oI z2 25 [(.int .i64 0), (.int .i64 0), (.slice nb2 (n1 + 1) nc2), (.slice fb2 (n2 + 1) fc2)], oI z1 25 [(.int .i64 0), (.int .i64 0), (.slice none 0 0), (.slice none 0 0)], rowI (some ⟨tr, 0, none⟩) 1 3 1 [.int .i64 (((s + 1) % n : Nat) : Int)]] ++ (itms 3 qs)) ∧ Heads [(0, .int .i64 ((n : Nat) : Int)), (2, (.pointer (some ⟨z1, 0, none⟩))), (3, (.pointer (some ⟨z2, 0, none⟩))), (4, .int .i64 ((s : Nat) : Int))] ρ) ?_ ?_
    · refine T.treeT [oI z2 25 [(.int .i64 0), (.int .i64 0), (.slice nbm n1 ncm), (.slice fbm n2 fcm)], oI z1 25 [(.int .i64 0), (.int .i64 0), (.slice none 0 0), (.slice none 0 0)]] [16, 18] 19 mixed rfl (by exact Sub.d (.d (.k (.k .z)))) (fun _ _ _ h => h) ?_
      refine RO.quietTT 0 rfl (by kernel_rfl) (q_fieldAddr Tryd.underlying25 rfl inf22 rfl rfl) ?_
      refine RO.quietTT 1 rfl (by kernel_rfl) (q_load_box 0 Tryd.underlying22 rfl rfl rfl rfl) ?_
      refine RO.quietTT 2 rfl (by kernel_rfl) (q_move rfl) ?_
      refine RO.quietTT 3 rfl (by kernel_rfl) (q_addN (a := s) (b := 1) rfl rfl (by omega)) ?_
      refine RO.quietTT 4 rfl (by kernel_rfl) (q_move rfl) ?_
      refine RO.quietTT 5 rfl (by kernel_rfl) (q_remN (a := (s + 1)) (b := n) rfl rfl (by omega)) ?_
      refine RO.quietTT 9 rfl (by kernel_rfl) (q_fieldAddr Tryd.underlying25 rfl inf23 rfl rfl) ?_
      refine RO.quietTT 10 rfl (by kernel_rfl) (q_load_box 0 Tryd.underlying23 rfl rfl rfl rfl) ?_
      refine RO.quietTT 11 rfl (by kernel_rfl) (q_move rfl) ?_
      refine RO.quietTT 12 rfl (by kernel_rfl) (q_eql rfl rfl) ?_
      refine RO.forkT [6, 13] (by kernel_rfl) rfl ⟨⟨_, rfl, rfl, l_build1 (v := .int .i64 (((s + 1) % n : Nat) : Int)) Tryd.underlying52 inf3 rfl rfl rfl (fun tr => ⟨.inr (by exact Sub.d (.d (.d (.k (.k .z))))), ?_⟩)⟩, ⟨_, rfl, rfl, l_build1 (v := .bool (decide (((s : Nat) : Int) = 0))) Tryd.underlying23 inf4 rfl rfl rfl (fun tf => ⟨.inr (by exact Sub.d (.d (.d (.k (.k .z))))), ?_⟩)⟩, trivial⟩ (by kernel_rfl)
      · refine RO.forkT [7, 13] (by kernel_rfl) rfl ⟨⟨_, rfl, rfl, l_build1 (v := (.slice (some ⟨tr, 0, none⟩) 1 1)) Tryd.underlying22 inf52 rfl rfl rfl (fun tq => ⟨.inr (by exact Sub.d (.d (.d (.d (.k (.k .z)))))), ?_⟩)⟩, ⟨_, rfl, rfl, l_build1 (v := .bool (decide (((s : Nat) : Int) = 0))) Tryd.underlying23 inf4 rfl rfl rfl (fun tf => ⟨.inr (by exact Sub.d (.d (.d (.d (.k (.k .z)))))), ?_⟩)⟩, trivial⟩ (by kernel_rfl)
        · refine RO.forkT [8, 13] (by kernel_rfl) rfl ⟨⟨_, rfl, rfl, l_append 2 Tryd.underlying22 Tryd.underlying22 inf52 rfl rfl rfl rfl (by first | (simp; done) | (simp; omega)) (by decide) (Src.row (j := 0) rfl (by simp)) (by simp [oneB]) (by omega) (by decide) (by decide) (fun nb2 nc2 => ⟨.inr (by exact Sub.d (.d (.d (.d (.k (.k .z)))))), ?_⟩)⟩, ⟨_, rfl, rfl, l_build1 (v := .bool (decide (((s : Nat) : Int) = 0))) Tryd.underlying23 inf4 rfl rfl rfl (fun tf => ⟨.inr (by exact Sub.d (.d (.d (.d (.d (.k (.k .z))))))), ?_⟩)⟩, trivial⟩ (by kernel_rfl)
          · refine RO.quietTT 15 rfl (by kernel_rfl) (q_fieldAddr Tryd.underlying25 rfl inf22 rfl rfl) ?_
            refine RO.forkT [13] (by kernel_rfl) rfl ⟨⟨_, rfl, rfl, l_build1 (v := .bool (decide (((s : Nat) : Int) = 0))) Tryd.underlying23 inf4 rfl rfl rfl (fun tf => ⟨.inr (by exact Sub.d (.d (.d (.d (.d (.k (.k .z))))))), ?_⟩)⟩, trivial⟩ (by kernel_rfl)
            refine RO.forkT [14] (by kernel_rfl) rfl ⟨⟨_, rfl, rfl, l_append 4 Tryd.underlying23 Tryd.underlying23 inf4 rfl rfl rfl rfl (by first | (simp; done) | (simp; omega)) (by decide) (Src.row (j := 0) rfl (by simp)) (by simp [oneB]) (by omega) (by decide) (by decide) (fun fb2 fc2 => ⟨.inr (by exact Sub.d (.d (.d (.d (.d (.k (.k .z))))))), ?_⟩)⟩, trivial⟩ (by kernel_rfl)
            refine RO.forkT [16] (by kernel_rfl) rfl ⟨⟨_, rfl, rfl, l_store_box (v := (.slice nb2 (n1 + 1) nc2)) (vs := [(.slice nb2 (n1 + 1) nc2)]) 5 inf22 rfl rfl rfl rfl rfl rfl (by simp [putL]) ⟨.inl (by decide), ?_⟩⟩, trivial⟩ (by kernel_rfl)
            refine RO.quietE 17 rfl (by kernel_rfl) (q_fieldAddr Tryd.underlying25 rfl inf23 rfl rfl) ?_
            refine RO.forkT [18] (by kernel_rfl) rfl ⟨⟨_, rfl, rfl, l_store_box (v := (.slice fb2 (n2 + 1) fc2)) (vs := [(.slice fb2 (n2 + 1) fc2)]) 5 inf23 rfl rfl rfl rfl rfl rfl (by simp [putL]) ⟨.inl (by decide), ?_⟩⟩, trivial⟩ (by kernel_rfl)
            exact RO.fin (by kernel_rfl) ⟨nb2, fb2, nc2, fc2, tr, rfl, ⟨rfl, rfl, rfl, rfl, trivial⟩⟩ (by exact Sub.d (.d (.pull [rowI (some ⟨tr, 0, none⟩) 1 3 1 [.int .i64 (((s + 1) % n : Nat) : Int)]] _ (.pull [rowI (some ⟨tr, 0, none⟩) 1 3 1 [.int .i64 (((s + 1) % n : Nat) : Int)]] _ (.pull [rowI (some ⟨tr, 0, none⟩) 1 3 1 [.int .i64 (((s + 1) % n : Nat) : Int)]] _ (.pull [rowI (some ⟨tr, 0, none⟩) 1 3 1 [.int .i64 (((s + 1) % n : Nat) : Int)]] _ (.k .rf)))))))
          refine RO.forkT [8] (by kernel_rfl) rfl ⟨⟨_, rfl, rfl, l_append 3 Tryd.underlying22 Tryd.underlying22 inf52 rfl rfl rfl rfl (by first | (simp; done) | (simp; omega)) (by decide) (Src.row (j := 1) rfl (by simp)) (by simp [oneB]) (by omega) (by decide) (by decide) (fun nb2 nc2 => ⟨.inr (by exact Sub.d (.d (.d (.d (.d (.k (.k .z))))))), ?_⟩)⟩, trivial⟩ (by kernel_rfl)
          refine RO.quietTT 15 rfl (by kernel_rfl) (q_fieldAddr Tryd.underlying25 rfl inf22 rfl rfl) ?_
          refine RO.forkT [14] (by kernel_rfl) rfl ⟨⟨_, rfl, rfl, l_append 4 Tryd.underlying23 Tryd.underlying23 inf4 rfl rfl rfl rfl (by first | (simp; done) | (simp; omega)) (by decide) (Src.row (j := 0) rfl (by simp)) (by simp [oneB]) (by omega) (by decide) (by decide) (fun fb2 fc2 => ⟨.inr (by exact Sub.d (.d (.d (.d (.d (.k (.k .z))))))), ?_⟩)⟩, trivial⟩ (by kernel_rfl)
          refine RO.forkT [16] (by kernel_rfl) rfl ⟨⟨_, rfl, rfl, l_store_box (v := (.slice nb2 (n1 + 1) nc2)) (vs := [(.slice nb2 (n1 + 1) nc2)]) 5 inf22 rfl rfl rfl rfl rfl rfl (by simp [putL]) ⟨.inl (by decide), ?_⟩⟩, trivial⟩ (by kernel_rfl)
          refine RO.quietE 17 rfl (by kernel_rfl) (q_fieldAddr Tryd.underlying25 rfl inf23 rfl rfl) ?_
          refine RO.forkT [18] (by kernel_rfl) rfl ⟨⟨_, rfl, rfl, l_store_box (v := (.slice fb2 (n2 + 1) fc2)) (vs := [(.slice fb2 (n2 + 1) fc2)]) 5 inf23 rfl rfl rfl rfl rfl rfl (by simp [putL]) ⟨.inl (by decide), ?_⟩⟩, trivial⟩ (by kernel_rfl)
          exact RO.fin (by kernel_rfl) ⟨nb2, fb2, nc2, fc2, tr, rfl, ⟨rfl, rfl, rfl, rfl, trivial⟩⟩ (by exact Sub.d (.d (.pull [rowI (some ⟨tr, 0, none⟩) 1 3 1 [.int .i64 (((s + 1) % n : Nat) : Int)]] _ (.pull [rowI (some ⟨tr, 0, none⟩) 1 3 1 [.int .i64 (((s + 1) % n : Nat) : Int)]] _ (.pull [rowI (some ⟨tr, 0, none⟩) 1 3 1 [.int .i64 (((s + 1) % n : Nat) : Int)]] _ (.pull [rowI (some ⟨tr, 0, none⟩) 1 3 1 [.int .i64 (((s + 1) % n : Nat) : Int)]] _ (.k .rf)))))))
        refine RO.forkT [7] (by kernel_rfl) rfl ⟨⟨_, rfl, rfl, l_build1 (v := (.slice (some ⟨tr, 0, none⟩) 1 1)) Tryd.underlying22 inf52 rfl rfl rfl (fun tq => ⟨.inr (by exact Sub.d (.d (.d (.d (.d (.k (.k .z))))))), ?_⟩)⟩, trivial⟩ (by kernel_rfl)
        refine RO.forkT [8] (by kernel_rfl) rfl ⟨⟨_, rfl, rfl, l_append 3 Tryd.underlying22 Tryd.underlying22 inf52 rfl rfl rfl rfl (by first | (simp; done) | (simp; omega)) (by decide) (Src.row (j := 0) rfl (by simp)) (by simp [oneB]) (by omega) (by decide) (by decide) (fun nb2 nc2 => ⟨.inr (by exact Sub.d (.d (.d (.d (.d (.k (.k .z))))))), ?_⟩)⟩, trivial⟩ (by kernel_rfl)
        refine RO.quietTT 15 rfl (by kernel_rfl) (q_fieldAddr Tryd.underlying25 rfl inf22 rfl rfl) ?_
        refine RO.forkT [14] (by kernel_rfl) rfl ⟨⟨_, rfl, rfl, l_append 4 Tryd.underlying23 Tryd.underlying23 inf4 rfl rfl rfl rfl (by first | (simp; done) | (simp; omega)) (by decide) (Src.row (j := 1) rfl (by simp)) (by simp [oneB]) (by omega) (by decide) (by decide) (fun fb2 fc2 => ⟨.inr (by exact Sub.d (.d (.d (.d (.d (.k (.k .z))))))), ?_⟩)⟩, trivial⟩ (by kernel_rfl)
        refine RO.forkT [16] (by kernel_rfl) rfl ⟨⟨_, rfl, rfl, l_store_box (v := (.slice nb2 (n1 + 1) nc2)) (vs := [(.slice nb2 (n1 + 1) nc2)]) 5 inf22 rfl rfl rfl rfl rfl rfl (by simp [putL]) ⟨.inl (by decide), ?_⟩⟩, trivial⟩ (by kernel_rfl)
        refine RO.quietE 17 rfl (by kernel_rfl) (q_fieldAddr Tryd.underlying25 rfl inf23 rfl rfl) ?_
        refine RO.forkT [18] (by kernel_rfl) rfl ⟨⟨_, rfl, rfl, l_store_box (v := (.slice fb2 (n2 + 1) fc2)) (vs := [(.slice fb2 (n2 + 1) fc2)]) 5 inf23 rfl rfl rfl rfl rfl rfl (by simp [putL]) ⟨.inl (by decide), ?_⟩⟩, trivial⟩ (by kernel_rfl)
        exact RO.fin (by kernel_rfl) ⟨nb2, fb2, nc2, fc2, tr, rfl, ⟨rfl, rfl, rfl, rfl, trivial⟩⟩ (by exact Sub.d (.d (.pull [rowI (some ⟨tr, 0, none⟩) 1 3 1 [.int .i64 (((s + 1) % n : Nat) : Int)]] _ (.pull [rowI (some ⟨tr, 0, none⟩) 1 3 1 [.int .i64 (((s + 1) % n : Nat) : Int)]] _ (.pull [rowI (some ⟨tr, 0, none⟩) 1 3 1 [.int .i64 (((s + 1) % n : Nat) : Int)]] _ (.pull [rowI (some ⟨tr, 0, none⟩) 1 3 1 [.int .i64 (((s + 1) % n : Nat) : Int)]] _ (.k .rf)))))))
      refine RO.forkT [6] (by kernel_rfl) rfl ⟨⟨_, rfl, rfl, l_build1 (v := .int .i64 (((s + 1) % n : Nat) : Int)) Tryd.underlying52 inf3 rfl rfl rfl (fun tr => ⟨.inr (by exact Sub.d (.d (.d (.d (.k (.k .z)))))), ?_⟩)⟩, trivial⟩ (by kernel_rfl)
      refine RO.forkT [7] (by kernel_rfl) rfl ⟨⟨_, rfl, rfl, l_build1 (v := (.slice (some ⟨tr, 0, none⟩) 1 1)) Tryd.underlying22 inf52 rfl rfl rfl (fun tq => ⟨.inr (by exact Sub.d (.d (.d (.d (.d (.k (.k .z))))))), ?_⟩)⟩, trivial⟩ (by kernel_rfl)
      refine RO.forkT [8] (by kernel_rfl) rfl ⟨⟨_, rfl, rfl, l_append 3 Tryd.underlying22 Tryd.underlying22 inf52 rfl rfl rfl rfl (by first | (simp; done) | (simp; omega)) (by decide) (Src.row (j := 0) rfl (by simp)) (by simp [oneB]) (by omega) (by decide) (by decide) (fun nb2 nc2 => ⟨.inr (by exact Sub.d (.d (.d (.d (.d (.k (.k .z))))))), ?_⟩)⟩, trivial⟩ (by kernel_rfl)
      refine RO.quietTT 15 rfl (by kernel_rfl) (q_fieldAddr Tryd.underlying25 rfl inf22 rfl rfl) ?_
      refine RO.forkT [14] (by kernel_rfl) rfl ⟨⟨_, rfl, rfl, l_append 4 Tryd.underlying23 Tryd.underlying23 inf4 rfl rfl rfl rfl (by first | (simp; done) | (simp; omega)) (by decide) (Src.row (j := 2) rfl (by simp)) (by simp [oneB]) (by omega) (by decide) (by decide) (fun fb2 fc2 => ⟨.inr (by exact Sub.d (.d (.d (.d (.d (.k (.k .z))))))), ?_⟩)⟩, trivial⟩ (by kernel_rfl)
      refine RO.forkT [16] (by kernel_rfl) rfl ⟨⟨_, rfl, rfl, l_store_box (v := (.slice nb2 (n1 + 1) nc2)) (vs := [(.slice nb2 (n1 + 1) nc2)]) 5 inf22 rfl rfl rfl rfl rfl rfl (by simp [putL]) ⟨.inl (by decide), ?_⟩⟩, trivial⟩ (by kernel_rfl)
      refine RO.quietE 17 rfl (by kernel_rfl) (q_fieldAddr Tryd.underlying25 rfl inf23 rfl rfl) ?_
      refine RO.forkT [18] (by kernel_rfl) rfl ⟨⟨_, rfl, rfl, l_store_box (v := (.slice fb2 (n2 + 1) fc2)) (vs := [(.slice fb2 (n2 + 1) fc2)]) 5 inf23 rfl rfl rfl rfl rfl rfl (by simp [putL]) ⟨.inl (by decide), ?_⟩⟩, trivial⟩ (by kernel_rfl)
      exact RO.fin (by kernel_rfl) ⟨nb2, fb2, nc2, fc2, tr, rfl, ⟨rfl, rfl, rfl, rfl, trivial⟩⟩ (by exact Sub.d (.pull [rowI (some ⟨tr, 0, none⟩) 1 3 1 [.int .i64 (((s + 1) % n : Nat) : Int)], rowI (some ⟨tf, 0, none⟩) 1 4 1 [.bool (decide (((s : Nat) : Int) = 0))]] _ (.pull [rowI (some ⟨tr, 0, none⟩) 1 3 1 [.int .i64 (((s + 1) % n : Nat) : Int)], rowI (some ⟨tf, 0, none⟩) 1 4 1 [.bool (decide (((s : Nat) : Int) = 0))]] _ (.pull [rowI (some ⟨tr, 0, none⟩) 1 3 1 [.int .i64 (((s + 1) % n : Nat) : Int)], rowI (some ⟨tf, 0, none⟩) 1 4 1 [.bool (decide (((s : Nat) : Int) = 0))]] _ (.pull [rowI (some ⟨tr, 0, none⟩) 1 3 1 [.int .i64 (((s + 1) % n : Nat) : Int)], rowI (some ⟨tf, 0, none⟩) 1 4 1 [.bool (decide (((s : Nat) : Int) = 0))]] _ (.k (.d .rf)))))))
    rintro ρ O ⟨nb2, fb2, nc2, fc2, tr, rfl, hH⟩
    obtain ⟨ρ0, rfl⟩ := hH.elim
    clear hH
    have hvq : vals (qs ++ [⟨some ⟨tr, 0, none⟩, 1, [(((s + 1) % n : Nat) : Int)]⟩]) = (vals qs) ++ [(.slice (some ⟨tr, 0, none⟩) 1 1)] := by simp [Rec.val]
    have hbq : bools (fs ++ [decide (((s : Nat) : Int) = 0)]) = (bools fs) ++ [.bool (decide (((s : Nat) : Int) = 0))] := by simp
    refine T.sub (O' := ([rowI nb2 nc2 52 1 (vals (qs ++ [⟨some ⟨tr, 0, none⟩, 1, [(((s + 1) % n : Nat) : Int)]⟩])), rowI fb2 fc2 4 1 (bools (fs ++ [decide (((s : Nat) : Int) = 0)])), oI z2 25 [(.int .i64 0), (.int .i64 0), (.slice nb2 (n1 + 1) nc2), (.slice fb2 (n2 + 1) fc2)], oI z1 25 [(.int .i64 0), (.int .i64 0), (.slice none 0 0), (.slice none 0 0)]] ++ itms 3 (qs ++ [⟨some ⟨tr, 0, none⟩, 1, [(((s + 1) % n : Nat) : Int)]⟩]))) (by rw [hvq, hbq]; exact Sub.foldN [rowI nb2 nc2 52 1 ((vals qs) ++ [(.slice (some ⟨tr, 0, none⟩) 1 1)]), rowI fb2 fc2 4 1 ((bools fs) ++ [.bool (decide (((s : Nat) : Int) = 0))]), oI z2 25 [(.int .i64 0), (.int .i64 0), (.slice nb2 (n1 + 1) nc2), (.slice fb2 (n2 + 1) fc2)], oI z1 25 [(.int .i64 0), (.int .i64 0), (.slice none 0 0), (.slice none 0 0)]] (rowI (some ⟨tr, 0, none⟩) 1 3 1 [.int .i64 (((s + 1) % n : Nat) : Int)]) (itms 3 qs) _ (itms_snoc 3 qs ⟨some ⟨tr, 0, none⟩, 1, [(((s + 1) % n : Nat) : Int)]⟩)) ?_
    refine T.region ?_
    refine TO.quiet (q_move rfl) (TO.quiet (q_addN (a := s) (b := 1) rfl rfl (by omega)) (TO.quiet (q_assign rfl) ?_))
    refine TO.nil ?_
    refine ⟨s + 1, by omega, nb2, fb2, nc2, fc2, n1 + 1, n2 + 1, qs ++ [⟨some ⟨tr, 0, none⟩, 1, [(((s + 1) % n : Nat) : Int)]⟩], fs ++ [decide (((s : Nat) : Int) = 0)], rfl, by omega, by omega, by omega, by simp; omega, by simp; omega, ?_, ?_, ⟨rfl, rfl, rfl, rfl, trivial⟩⟩
    · rw [take_at (show ((List.range n).map fun s => [(((s + 1) % n : Nat) : Int)])[s]? = some [(((s + 1) % n : Nat) : Int)] by rw [List.getElem?_map, List.getElem?_range hlt7]; rfl)]
      show List.map Rec.xs (qs ++ [_]) = _
      rw [List.map_append, show List.map Rec.xs qs = _ from hqs]; rfl
    · rw [take_at (show ((List.range n).map fun s => decide (((s : Nat) : Int) = 0))[s]? = some (decide (((s : Nat) : Int) = 0)) by rw [List.getElem?_map, List.getElem?_range hlt7]; rfl), hfs]
  have hge7 : ¬ s < n := by omega
  refine T.exit ?_
  refine T.seq ?_
  obtain ⟨W, hW⟩ : ∃ W, W = cycD n := ⟨_, rfl⟩
  have e1 : nums qs = W.next := by rw [hW, hqs, List.take_of_length_le (by simp; omega)]; rfl
  have e2 : fs = W.final := by rw [hW, hfs, List.take_of_length_le (by simp; omega)]; rfl
  have e3 : W.vars = 0 := by rw [hW]; rfl
  have e4 : W.start = 0 := by rw [hW]; rfl
  obtain rfl : n1 = W.next.length := by rw [← e1, List.length_map]; omega
  obtain rfl : n2 = W.final.length := by rw [← e2]; omega
  subst e2
  obtain ⟨z9, hz9⟩ : ∃ z : DK, z = ⟨nbm, ncm, fbm, fcm, qs⟩ := ⟨_, rfl⟩
  refine T.sub (O' := ([rowI nbm ncm 52 1 (vals qs), rowI fbm fcm 4 1 (bools W.final), oI z2 25 [(.int .i64 0), (.int .i64 0), (.slice nbm W.next.length ncm), (.slice fbm W.final.length fcm)], oI z1 25 [(.int .i64 0), (.int .i64 0), (.slice none 0 0), (.slice none 0 0)]] ++ itms 3 qs)) (by exact Sub.rf) ?_
  refine T.sub (O' := (([rowI nbm ncm 52 1 (vals qs), rowI fbm fcm 4 1 (bools W.final)] ++ itms 3 qs) ++ [oI z2 25 [(.int .i64 0), (.int .i64 0), (.slice nbm W.next.length ncm), (.slice fbm W.final.length fcm)], oI z1 25 [(.int .i64 0), (.int .i64 0), (.slice none 0 0), (.slice none 0 0)]])) (by exact Sub.swap3 [rowI nbm ncm 52 1 (vals qs), rowI fbm fcm 4 1 (bools W.final)] (itms 3 qs) [oI z2 25 [(.int .i64 0), (.int .i64 0), (.slice nbm W.next.length ncm), (.slice fbm W.final.length fcm)], oI z1 25 [(.int .i64 0), (.int .i64 0), (.slice none 0 0), (.slice none 0 0)]]) ?_
  refine T.pack (φ := nums qs = W.next) e1 ?_
  refine T.sub (O' := [dI 52 4 3 W z9, oI z2 25 (dC W z9), oI z1 25 [(.int .i64 0), (.int .i64 0), (.slice none 0 0), (.slice none 0 0)]]) (by subst hz9; subst hW; exact Sub.rf) ?_
  refine T.region ?_
  refine TO.quiet (q_load_boxAgg 1 Tryd.underlying25 rfl inf25 rfl rfl rfl) ?_
  refine TO.loud rfl (l_store_box (v := (dV W z9)) (vs := (dC W z9)) 2 inf25 rfl rfl rfl rfl rfl rfl (by simp [putL]) ?_)
  refine TO.nil (T.ret (Res.drop ?_))
  refine Res.cell1 (i := 2) Tryd.results35 Tryd.underlying25 rfl inf25 rfl rfl rfl ?_
  subst hW
  exact ⟨[dI 52 4 3 (cycD n) z9], (by exact Sub.k .z), z9, rfl, rfl⟩
end Go.Proofs.YtdaapdamcekkgaaDoor

