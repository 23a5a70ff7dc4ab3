/- Contracts of functions of the program (P3, Bol8, P4, P7, Over, P8, P6, P5, P9, BolA, Run, PA, BolC, Awk, PB): what each call answers and that it leaves memory as it was. Conditions: those each theorem names. -/
import Derived.Test.YtdaapdamcekkgaaDoorP2
import Derived.Test.YtdaapdamcekkgaaDoorStr
import Derived.Test.YtdaapdamcekkgaaDoorDec
set_option linter.unusedSectionVars false
set_option linter.unusedSimpArgs false
set_option linter.unusedVariables false
set_option linter.unnecessarySimpa false
namespace Go.Proofs.YtdaapdamcekkgaaDoor
open Go.Lx Go.RowKit
set_option linter.unusedVariables false
set_option linter.unusedSimpArgs false
theorem minK (w : World) (d : DFA) (k : DK) (h : At w d k) (hb : d.next.length < 9223372036854775807) (hbr : ∀ r ∈ d.next, r.length < 9223372036854775807) (hbf : d.final.length < 9223372036854775807) (hn : Valid d → d.next.length < 100) :
    PureT Tryd.prog 21 [dV d k] w fun v N => ∃ k' : DK, v = .tuple #[dV (minV d) k', .int .i64 (checkD d : Int)] ∧ N = [dI 52 4 3 (minV d) k'] :=
  CallT.dk (g := fun x => .tuple #[x, .int .i64 (checkD d : Int)]) (minA w d k.nb k.fb k.nc k.fc (vals k.qs) h hb hbr hbf hn)
theorem minKE (w : World) (d : DFA) (k : DK) (h : At w d k) (hv : Valid d) (hn : d.next.length < 100) {M : DFA} (hM : minD d = M) :
    PureT Tryd.prog 21 [dV d k] w fun v N => ∃ k' : DK, v = .tuple #[dV M k', .int .i64 0] ∧ N = [dI 52 4 3 M k'] := by
  have h1 := minK w d k h (by have := hv.n4; omega) hv.bound (by have := hv.fin; have := hv.n4; omega) (fun _ => hn)
  rw [minV_valid hv, hM, checkD_zero.2 hv] at h1
  exact h1
set_option maxHeartbeats 1000000 in
set_option maxRecDepth 20000 in
theorem notF (base : World) (x y : Bool) : CallT Tryd.prog base 44 [.bool x, .bool y] [] (fun v O' => v = .bool (notB x y) ∧ O' = []) := by
  refine CallT.enter Tryd.func44 rfl Tryd.ntmps44 rfl ?_
  refine T.seq (T.region ?_)
  refine TO.quiet (q_assign rfl) ?_
  refine TO.nil (T.seq (T.region ?_))
  refine TO.quiet (q_move rfl) (TO.quiet (q_not rfl) (TO.quiet (q_assign rfl) ?_))
  refine TO.nil (T.ret ?_)
  refine Res.one (.bool (!x)) Tryd.results44 rfl ?_
  cases x <;> cases y <;> first | exact ⟨rfl, rfl⟩ | (exfalso; simp_all; done) | simp_all [andB, orB, xorB, minusB, notB]
set_option maxRecDepth 20000 in
theorem notFV (base : World) (x y : Bool) : CallV Tryd.prog base (.func (.func 44) #[] #[]) [.bool x, .bool y] [] (fun v O' => v = .bool (notB x y) ∧ O' = []) := CallV.of_fn (first := []) (caps := []) ent44 (notF base x y)
set_option maxHeartbeats 1000000 in
set_option maxRecDepth 20000 in
theorem andF (base : World) (x y : Bool) : CallT Tryd.prog base 56 [.bool x, .bool y] [] (fun v O' => v = .bool (andB x y) ∧ O' = []) := by
  refine CallT.enter Tryd.func56 rfl Tryd.ntmps56 rfl ?_
  refine T.seq (T.region ?_)
  refine TO.quiet (q_assign rfl) ?_
  refine TO.nil (T.seq (T.region ?_))
  refine TO.quiet (q_move rfl) ?_
  by_cases hs6 : x = true
  · refine TO.quiet (QT.toB (q_move rfl) (hs6)) ?_
    refine TO.guarded rfl rfl rfl (LT.of_quiet rfl rfl (q_move rfl) ?_)
    refine TO.quiet (q_pick1 rfl rfl) (TO.quiet (q_assign rfl) ?_)
    refine TO.nil (T.ret ?_)
    refine Res.one (.bool y) Tryd.results56 rfl ?_
    cases x <;> cases y <;> first | exact ⟨rfl, rfl⟩ | (exfalso; simp_all; done) | simp_all [andB, orB, xorB, minusB, notB]
  refine TO.quiet (QT.toB (q_move rfl) (Bool.eq_false_iff.2 hs6)) ?_
  refine TO.passed rfl rfl ?_
  refine TO.quiet (q_pick0 rfl rfl) (TO.quiet (q_assign rfl) ?_)
  refine TO.nil (T.ret ?_)
  refine Res.one (.bool false) Tryd.results56 rfl ?_
  cases x <;> cases y <;> first | exact ⟨rfl, rfl⟩ | (exfalso; simp_all; done) | simp_all [andB, orB, xorB, minusB, notB]
set_option maxRecDepth 20000 in
theorem andFV (base : World) (x y : Bool) : CallV Tryd.prog base (.func (.func 56) #[] #[]) [.bool x, .bool y] [] (fun v O' => v = .bool (andB x y) ∧ O' = []) := CallV.of_fn (first := []) (caps := []) ent56 (andF base x y)
set_option maxHeartbeats 1000000 in
set_option maxRecDepth 20000 in
theorem orF (base : World) (x y : Bool) : CallT Tryd.prog base 57 [.bool x, .bool y] [] (fun v O' => v = .bool (orB x y) ∧ O' = []) := by
  refine CallT.enter Tryd.func57 rfl Tryd.ntmps57 rfl ?_
  refine T.seq (T.region ?_)
  refine TO.quiet (q_assign rfl) ?_
  refine TO.nil (T.seq (T.region ?_))
  refine TO.quiet (q_move rfl) ?_
  by_cases hs6 : x = true
  · refine TO.quiet (QT.toB (q_move rfl) (hs6)) ?_
    refine TO.passed rfl rfl ?_
    refine TO.quiet (q_pick1 rfl rfl) (TO.quiet (q_assign rfl) ?_)
    refine TO.nil (T.ret ?_)
    refine Res.one (.bool true) Tryd.results57 rfl ?_
    cases x <;> cases y <;> first | exact ⟨rfl, rfl⟩ | (exfalso; simp_all; done) | simp_all [andB, orB, xorB, minusB, notB]
  refine TO.quiet (QT.toB (q_move rfl) (Bool.eq_false_iff.2 hs6)) ?_
  refine TO.guarded rfl rfl rfl (LT.of_quiet rfl rfl (q_move rfl) ?_)
  refine TO.quiet (q_pick0 rfl rfl) (TO.quiet (q_assign rfl) ?_)
  refine TO.nil (T.ret ?_)
  refine Res.one (.bool y) Tryd.results57 rfl ?_
  cases x <;> cases y <;> first | exact ⟨rfl, rfl⟩ | (exfalso; simp_all; done) | simp_all [andB, orB, xorB, minusB, notB]
set_option maxRecDepth 20000 in
theorem orFV (base : World) (x y : Bool) : CallV Tryd.prog base (.func (.func 57) #[] #[]) [.bool x, .bool y] [] (fun v O' => v = .bool (orB x y) ∧ O' = []) := CallV.of_fn (first := []) (caps := []) ent57 (orF base x y)
set_option maxHeartbeats 1000000 in
set_option maxRecDepth 20000 in
theorem xorF (base : World) (x y : Bool) : CallT Tryd.prog base 58 [.bool x, .bool y] [] (fun v O' => v = .bool (xorB x y) ∧ O' = []) := by
  refine CallT.enter Tryd.func58 rfl Tryd.ntmps58 rfl ?_
  refine T.seq (T.region ?_)
  refine TO.quiet (q_assign rfl) ?_
  refine TO.nil (T.seq (T.region ?_))
  refine TO.quiet (q_move rfl) (TO.quiet (q_move rfl) (TO.quiet (q_bneq Tryd.underlying4 rfl rfl) (TO.quiet (q_assign rfl) ?_)))
  refine TO.nil (T.ret ?_)
  refine Res.one (.bool (x != y)) Tryd.results58 rfl ?_
  cases x <;> cases y <;> first | exact ⟨rfl, rfl⟩ | (exfalso; simp_all; done) | simp_all [andB, orB, xorB, minusB, notB]
set_option maxRecDepth 20000 in
theorem xorFV (base : World) (x y : Bool) : CallV Tryd.prog base (.func (.func 58) #[] #[]) [.bool x, .bool y] [] (fun v O' => v = .bool (xorB x y) ∧ O' = []) := CallV.of_fn (first := []) (caps := []) ent58 (xorF base x y)
set_option maxHeartbeats 1000000 in
set_option maxRecDepth 20000 in
theorem minusF (base : World) (x y : Bool) : CallT Tryd.prog base 59 [.bool x, .bool y] [] (fun v O' => v = .bool (minusB x y) ∧ O' = []) := by
  refine CallT.enter Tryd.func59 rfl Tryd.ntmps59 rfl ?_
  refine T.seq (T.region ?_)
  refine TO.quiet (q_assign rfl) ?_
  refine TO.nil (T.seq (T.region ?_))
  refine TO.quiet (q_move rfl) ?_
  by_cases hs6 : x = true
  · refine TO.quiet (QT.toB (q_move rfl) (hs6)) ?_
    refine TO.guarded rfl rfl rfl (LT.of_quiet rfl rfl (q_move rfl) ?_)
    refine TO.guarded rfl rfl rfl (LT.of_quiet rfl rfl (q_not rfl) ?_)
    refine TO.quiet (q_pick1 rfl rfl) (TO.quiet (q_assign rfl) ?_)
    refine TO.nil (T.ret ?_)
    refine Res.one (.bool (!y)) Tryd.results59 rfl ?_
    cases x <;> cases y <;> first | exact ⟨rfl, rfl⟩ | (exfalso; simp_all; done) | simp_all [andB, orB, xorB, minusB, notB]
  refine TO.quiet (QT.toB (q_move rfl) (Bool.eq_false_iff.2 hs6)) ?_
  refine TO.passed rfl rfl ?_
  refine TO.passed rfl rfl ?_
  refine TO.quiet (q_pick0 rfl rfl) (TO.quiet (q_assign rfl) ?_)
  refine TO.nil (T.ret ?_)
  refine Res.one (.bool false) Tryd.results59 rfl ?_
  cases x <;> cases y <;> first | exact ⟨rfl, rfl⟩ | (exfalso; simp_all; done) | simp_all [andB, orB, xorB, minusB, notB]
set_option maxRecDepth 20000 in
theorem minusFV (base : World) (x y : Bool) : CallV Tryd.prog base (.func (.func 59) #[] #[]) [.bool x, .bool y] [] (fun v O' => v = .bool (minusB x y) ∧ O' = []) := CallV.of_fn (first := []) (caps := []) ent59 (minusF base x y)
set_option maxHeartbeats 1000000 in
set_option maxRecDepth 20000 in
theorem combineBad (w : World) (a b : DFA) (j k : DK) (ha : At w a j) (hb : At w b k) (haa : a.next.length < 9223372036854775807) (haar : ∀ r ∈ a.next, r.length < 9223372036854775807) (haaf : a.final.length < 9223372036854775807) (hbb : b.next.length < 9223372036854775807) (hbbr : ∀ r ∈ b.next, r.length < 9223372036854775807) (hbbf : b.final.length < 9223372036854775807) (g : Nat) (he : wrongD a b ≠ 0) :
    PureT Tryd.prog 43 [dV a j, dV b k, .func (.func g) #[] #[]] w fun v N => v = .tuple #[dV noD ⟨none, 0, none, 0, []⟩, .int .i64 (wrongD a b : Int)] ∧ N = [] := by
  refine CallT.enter Tryd.func43 rfl Tryd.ntmps43 rfl ?_
  refine T.seq (T.region ?_)
  refine TO.loud rfl (l_box (v := (dV a j)) (cs := (dC a j)) rfl rfl (fun bx1 => ?_))
  refine TO.loud rfl (l_box (v := (dV b k)) (cs := (dC b k)) rfl rfl (fun bx2 => ?_))
  refine TO.loud rfl (l_box (v := (.func (.func g) #[] #[])) (cs := [(.func (.func g) #[] #[])]) rfl rfl (fun bx3 => ?_))
  refine TO.loud rfl (l_alloc inf25 rfl (fun bx4 => ?_))
  refine TO.loud rfl (l_alloc inf29 rfl (fun bx5 => ?_))
  refine TO.nil (T.seq (T.region ?_))
  refine TO.quiet (q_load_boxAgg 4 Tryd.underlying25 rfl inf25 rfl rfl rfl) (TO.quiet (q_load_boxAgg 3 Tryd.underlying25 rfl inf25 rfl rfl rfl) ?_)
  have hk16 := fun (w1 : World) (hI : Inv w [oI bx5 29 [(.int .i64 0)], oI bx4 25 [(.int .i64 0), (.int .i64 0), (.slice none 0 0), (.slice none 0 0)], oI bx3 60 [(.func (.func g) #[] #[])], oI bx2 25 (dC b k), oI bx1 25 (dC a j)] w1) => beginBad w1 a b j k (hI.atB ha) (hI.atB hb) haa haar haaf hbb hbbr hbbf he
  refine TO.loud rfl (l_call ent69 (CallT.of_pure hk16) rfl ?_)
  clear hk16
  rintro vr O' ⟨N, rfl, rfl, rfl⟩
  refine TO.quiet (q_move rfl) (TO.quiet (q_extract (vs := _) rfl rfl) (TO.quiet (q_extract (vs := _) rfl rfl) ?_))
  refine TO.loud rfl (l_alloc inf79 rfl (fun bx6 => ?_))
  refine TO.loud rfl (l_store_box (v := .pointer none) (vs := [(.pointer none)]) 0 inf79 rfl rfl rfl rfl rfl rfl (by simp [putL]) ?_)
  refine TO.quiet (q_assign rfl) ?_
  refine TO.nil (T.seq (T.seq (T.region ?_)))
  refine TO.quiet (q_move rfl) (TO.quiet (q_neq rfl rfl) ?_)
  refine TO.nil ?_
  refine T.cond1 (congrArg Value.bool (decide_eq_true (by omega))) ?_
  refine T.seq (T.region ?_)
  refine TO.quiet (q_build plan25 inf25 rfl) (TO.quiet (q_move rfl) ?_)
  refine TO.loud rfl (l_store_box (v := (.agg #[(.int .i64 0), (.int .i64 0), (.slice none 0 0), (.slice none 0 0)])) (vs := [(.int .i64 0), (.int .i64 0), (.slice none 0 0), (.slice none 0 0)]) 2 inf25 rfl rfl rfl rfl rfl rfl (by simp [putL]) ?_)
  refine TO.loud rfl (l_store_box (v := .int .i64 (wrongD a b : Int)) (vs := [(.int .i64 (wrongD a b : Int))]) 1 inf29 rfl rfl rfl rfl rfl rfl (by simp [putL]) ?_)
  refine TO.nil (T.ret (Res.drop ?_))
  refine Res.cell2a (i := 2) (j := 1) Tryd.results43 Tryd.underlying25 rfl inf25 Tryd.underlying29 rfl rfl rfl rfl rfl rfl ?_
  exact ⟨[], Sub.z, rfl, rfl⟩
set_option maxHeartbeats 1000000 in
set_option maxRecDepth 20000 in
theorem combineOk (w : World) (a b : DFA) (j k : DK) (ha : At w a j) (hb : At w b k) (va : Valid a) (vb : Valid b) (hv : a.vars = b.vars) (f : Bool → Bool → Bool) (g : Nat) (hf : ∀ (base : World) (x y : Bool), CallV Tryd.prog base (.func (.func g) #[] #[]) [.bool x, .bool y] [] (fun v O' => v = .bool (f x y) ∧ O' = [])) (hn : a.next.length * b.next.length ≤ 4096) (hN9 : (order (prodD f a b)).length < 100) :
    PureT Tryd.prog 43 [dV a j, dV b k, .func (.func g) #[] #[]] w fun v N => ∃ k' : DK, v = .tuple #[dV (opD f a b) k', .int .i64 0] ∧ N = [dI 52 4 3 (opD f a b) k'] := by
  refine CallT.enter Tryd.func43 rfl Tryd.ntmps43 rfl ?_
  have h4 : a.next.length * b.next.length ≤ 4096 * 4096 := Nat.mul_le_mul va.n4 vb.n4
  obtain ⟨L, hL⟩ : ∃ L, 2 ^ a.vars.toNat = L := ⟨_, rfl⟩
  have hw : L ≤ 64 := by rw [← hL]; exact va.width
  refine T.seq (T.region ?_)
  refine TO.loud rfl (l_box (v := (dV a j)) (cs := (dC a j)) rfl rfl (fun z1 => ?_))
  refine TO.loud rfl (l_box (v := (dV b k)) (cs := (dC b k)) rfl rfl (fun z2 => ?_))
  refine TO.loud rfl (l_box (v := (.func (.func g) #[] #[])) (cs := [(.func (.func g) #[] #[])]) rfl rfl (fun z3 => ?_))
  refine TO.loud rfl (l_alloc inf25 rfl (fun z4 => ?_))
  refine TO.loud rfl (l_alloc inf29 rfl (fun z5 => ?_))
  refine TO.nil (T.seq (T.region ?_))
  refine TO.quiet (q_load_boxAgg 4 Tryd.underlying25 rfl inf25 rfl rfl rfl) (TO.quiet (q_load_boxAgg 3 Tryd.underlying25 rfl inf25 rfl rfl rfl) ?_)
  have hk16 := fun (w1 : World) (hI : Inv w [oI z5 29 [(.int .i64 0)], oI z4 25 [(.int .i64 0), (.int .i64 0), (.slice none 0 0), (.slice none 0 0)], oI z3 60 [(.func (.func g) #[] #[])], oI z2 25 (dC b k), oI z1 25 (dC a j)] w1) => beginOk w1 a b j k (hI.atB ha) (hI.atB hb) va vb hv
  refine TO.loud rfl (l_call ent69 (CallT.of_pure hk16) rfl ?_)
  clear hk16
  rintro vr O' ⟨N, rfl, bp, qb, m, rfl, rfl⟩
  refine TO.quiet (q_move rfl) (TO.quiet (q_extract (vs := _) rfl rfl) (TO.quiet (q_extract (vs := _) rfl rfl) ?_))
  refine TO.loud rfl (l_alloc inf79 rfl (fun z6 => ?_))
  refine TO.loud rfl (l_store_box (v := (.pointer (some ⟨bp, 0, none⟩))) (vs := [(.pointer (some ⟨bp, 0, none⟩))]) 0 inf79 rfl rfl rfl rfl rfl rfl (by simp [putL]) ?_)
  refine TO.quiet (q_assign rfl) ?_
  refine TO.nil (T.seq (T.seq (T.region ?_)))
  refine TO.quiet (q_move rfl) (TO.quiet (q_neq rfl rfl) ?_)
  refine TO.nil ?_
  refine T.cond0 rfl ?_
  refine T.skip (T.seq (T.region ?_))
  refine TO.quiet (q_fieldAddr Tryd.underlying25 rfl inf3 rfl rfl) (TO.quiet (q_load_box 8 Tryd.underlying3 rfl rfl rfl rfl) (TO.quiet (q_build (cs := [(.int .i64 a.vars), (.int .i64 0), (.slice none 0 0), (.slice none 0 0)]) plan25 inf25 (by kernel_rfl)) ?_))
  refine TO.loud rfl (l_alloc inf25 rfl (fun z7 => ?_))
  refine TO.loud rfl (l_store_box (v := (.agg #[(.int .i64 a.vars), (.int .i64 0), (.slice none 0 0), (.slice none 0 0)])) (vs := [(.int .i64 a.vars), (.int .i64 0), (.slice none 0 0), (.slice none 0 0)]) 0 inf25 rfl rfl rfl rfl rfl rfl (by simp [putL]) ?_)
  refine TO.nil (T.seq (T.seq ?_))
  refine T.nilRow 4 1 ?_
  refine T.nilRow 52 1 ?_
  refine T.region ?_
  refine TO.quiet (q_load_box 3 Tryd.underlying79 rfl rfl rfl rfl) ?_
  have hk27 := fun (w1 : World) (hI : Inv w [rowI none 0 52 1 (vals []), rowI none 0 4 1 (bools []), oI z7 25 [(.int .i64 a.vars), (.int .i64 0), (.slice none 0 0), (.slice none 0 0)], oI z6 79 [(.pointer (some ⟨bp, 0, none⟩))], oI bp 90 [(.int .i64 a.vars), (.int .i64 a.start), (.slice j.nb a.next.length j.nc), (.slice j.fb a.final.length j.fc), (.int .i64 b.vars), (.int .i64 b.start), (.slice k.nb b.next.length k.nc), (.slice k.fb b.final.length k.fc), (.slice (some ⟨qb, 0, none⟩) ([a.start.toNat * b.next.length + b.start.toNat].length) 1), (.map (some m))], rowI (some ⟨qb, 0, none⟩) 1 86 2 (prs b.next.length [a.start.toNat * b.next.length + b.start.toNat]), mapI pairV (fun n : Nat => Value.int .i64 (n : Int)) m (pmap b.next.length [a.start.toNat * b.next.length + b.start.toNat]), oI z5 29 [(.int .i64 0)], oI z4 25 [(.int .i64 0), (.int .i64 0), (.slice none 0 0), (.slice none 0 0)], oI z3 60 [(.func (.func g) #[] #[])], oI z2 25 (dC b k), oI z1 25 (dC a j)] w1) => pairsF w1 bp
  refine TO.loud rfl (l_call ent70 (CallT.of_pure hk27) rfl ?_)
  clear hk27
  rintro vr O' ⟨N, rfl, bP, rfl, rfl⟩
  refine TO.nil (T.block ?_)
  refine T.rangeFunc (first := []) (caps := [(.pointer (some ⟨bP, 0, none⟩))]) rfl ent87 (fun yl yq yhq => ?_)
  refine CallT.mono (CallT.sub (O' := oI bP 79 [(.pointer (some ⟨bp, 0, none⟩))] :: oI bp 90 [(.int .i64 a.vars), (.int .i64 a.start), (.slice j.nb a.next.length j.nc), (.slice j.fb a.final.length j.fc), (.int .i64 b.vars), (.int .i64 b.start), (.slice k.nb b.next.length k.nc), (.slice k.fb b.final.length k.fc), (.slice (some ⟨qb, 0, none⟩) ([a.start.toNat * b.next.length + b.start.toNat].length) 1), (.map (some m))] :: rowI (some ⟨qb, 0, none⟩) 1 86 2 (prs b.next.length [a.start.toNat * b.next.length + b.start.toNat]) :: mapI pairV (fun n : Nat => Value.int .i64 (n : Int)) m (pmap b.next.length [a.start.toNat * b.next.length + b.start.toNat]) :: (objI yl (lp yq none) :: [rowI none 0 52 1 (vals []), rowI none 0 4 1 (bools []), oI z7 25 [(.int .i64 a.vars), (.int .i64 0), (.slice none 0 0), (.slice none 0 0)], oI z6 79 [(.pointer (some ⟨bp, 0, none⟩))], oI z5 29 [(.int .i64 0)], oI z4 25 [(.int .i64 0), (.int .i64 0), (.slice none 0 0), (.slice none 0 0)], oI z3 60 [(.func (.func g) #[] #[])], oI z2 25 (dC b k), oI z1 25 (dC a j)])) (Sub.pick [1, 5, 5, 5, 0, 0, 0, 0, 0, 0, 0, 0, 0, 0] rfl) (pairs1 w f a b j k ha hb va vb hv L hL bP bp m (some ⟨qb, 0, none⟩) 1 (.func (.yield yl) #[] #[]) (fun i O => ∃ (nbm fbm : Option Addr) (ncm fcm n1 n2 : Nat) (qs : List Rec) (fs : List Bool), O = objI yl (lp yq none) :: ([rowI nbm ncm 52 1 (vals qs), rowI fbm fcm 4 1 (bools fs), oI z7 25 [(.int .i64 a.vars), (.int .i64 0), (.slice nbm n1 ncm), (.slice fbm n2 fcm)], oI z6 79 [(.pointer (some ⟨bp, 0, none⟩))], oI z5 29 [(.int .i64 0)], oI z4 25 [(.int .i64 0), (.int .i64 0), (.slice none 0 0), (.slice none 0 0)], oI z3 60 [(.func (.func g) #[] #[])], oI z2 25 (dC b k), oI z1 25 (dC a j)] ++ (itms 3 qs)) ∧ n1 = i ∧ n2 = i ∧ qs.length = i ∧ fs.length = i ∧ nums qs = ((order (prodD f a b)).take i).map (rnR (prodD f a b)) ∧ fs = ((order (prodD f a b)).take i).map (finN (prodD f a b))) (fun _ => False) ?_ _ ?_)) ?_
  · intro i o qb qc rb O hq hJ
    obtain ⟨nbm, fbm, ncm, fcm, n1, n2, qs, fs, rfl, hn1, hn2, hql, hfl, hqs, hfs⟩ := hJ
    refine CallV.yield yhq rfl rfl ?_
    refine T.sub (O' := ([rowI nbm ncm 52 1 (vals qs), rowI fbm fcm 4 1 (bools fs), oI z7 25 [(.int .i64 a.vars), (.int .i64 0), (.slice nbm n1 ncm), (.slice fbm n2 fcm)], oI z6 79 [(.pointer (some ⟨bp, 0, none⟩))], oI z5 29 [(.int .i64 0)], oI z4 25 [(.int .i64 0), (.int .i64 0), (.slice none 0 0), (.slice none 0 0)], oI z3 60 [(.func (.func g) #[] #[])], oI z2 25 (dC b k), oI z1 25 (dC a j), oI bp 90 [(.int .i64 a.vars), (.int .i64 a.start), (.slice j.nb a.next.length j.nc), (.slice j.fb a.final.length j.fc), (.int .i64 b.vars), (.int .i64 b.start), (.slice k.nb b.next.length k.nc), (.slice k.fb b.final.length k.fc), (.slice qb ((bfsN (prodD f a b) (i + 1)).length) qc), (.map (some m))], rowI qb qc 86 2 (prs b.next.length (bfsN (prodD f a b) (i + 1))), mapI pairV (fun n : Nat => Value.int .i64 (n : Int)) m (pmap b.next.length (bfsN (prodD f a b) (i + 1))), rowI (some ⟨rb, 0, none⟩) L 3 1 (ints (rnR (prodD f a b) o))] ++ itms 3 qs)) (by exact Sub.swap3 [rowI nbm ncm 52 1 (vals qs), rowI fbm fcm 4 1 (bools fs), oI z7 25 [(.int .i64 a.vars), (.int .i64 0), (.slice nbm n1 ncm), (.slice fbm n2 fcm)], oI z6 79 [(.pointer (some ⟨bp, 0, none⟩))], oI z5 29 [(.int .i64 0)], oI z4 25 [(.int .i64 0), (.int .i64 0), (.slice none 0 0), (.slice none 0 0)], oI z3 60 [(.func (.func g) #[] #[])], oI z2 25 (dC b k), oI z1 25 (dC a j)] [oI bp 90 [(.int .i64 a.vars), (.int .i64 a.start), (.slice j.nb a.next.length j.nc), (.slice j.fb a.final.length j.fc), (.int .i64 b.vars), (.int .i64 b.start), (.slice k.nb b.next.length k.nc), (.slice k.fb b.final.length k.fc), (.slice qb ((bfsN (prodD f a b) (i + 1)).length) qc), (.map (some m))], rowI qb qc 86 2 (prs b.next.length (bfsN (prodD f a b) (i + 1))), mapI pairV (fun n : Nat => Value.int .i64 (n : Int)) m (pmap b.next.length (bfsN (prodD f a b) (i + 1))), rowI (some ⟨rb, 0, none⟩) L 3 1 (ints (rnR (prodD f a b) o))] (itms 3 qs)) ?_
    have hbl := pr_bfs_len (f := f) va vb hv i
    have hil := (List.getElem?_eq_some_iff.1 hq).1
    have ho := (pr_bfs_ok (f := f) va vb hv i).2 o (List.mem_of_getElem? hq)
    obtain ⟨hs, ht⟩ := pr_split ho
    have hoa := bfs_at hq (by rw [prod_len]; omega)
    have hfa : (bools a.final)[o / b.next.length]? = some (.bool (finN a (o / b.next.length))) := by
      have hl : o / b.next.length < a.final.length := by rw [va.fin]; exact hs
      rw [bools_get hl]; unfold finN; rw [List.getD_eq_getElem?_getD, List.getElem?_eq_getElem hl]; rfl
    have hfb : (bools b.final)[o % b.next.length]? = some (.bool (finN b (o % b.next.length))) := by
      have hl : o % b.next.length < b.final.length := by rw [vb.fin]; exact ht
      rw [bools_get hl]; unfold finN; rw [List.getD_eq_getElem?_getD, List.getElem?_eq_getElem hl]; rfl
    have hrl : (rnR (prodD f a b) o).length = L := by unfold rnR; rw [List.length_map, renRow_length]; exact hL
    have hvq : vals (qs ++ [⟨some ⟨rb, 0, none⟩, L, rnR (prodD f a b) o⟩]) = vals qs ++ [.slice (some ⟨rb, 0, none⟩) L L] := by simp [Rec.val, hrl]
    have hbq : bools (fs ++ [f (finN a (o / b.next.length)) (finN b (o % b.next.length))]) = bools fs ++ [.bool (f (finN a (o / b.next.length)) (finN b (o % b.next.length)))] := by simp
    have hbl2 := pr_bfs_len (f := f) va vb hv (i + 1)
    have hlt9 : (bfsN (prodD f a b) (i + 1)).length ≤ 4096 := by omega
    refine T.seq (T.region ?_)
    refine TO.loud rfl (l_alloc inf86 rfl (fun z8 => ?_))
    refine TO.loud rfl (l_store_box (v := (.agg #[.int .i64 ((o / b.next.length : Nat) : Int), .int .i64 ((o % b.next.length : Nat) : Int)])) (vs := [.int .i64 ((o / b.next.length : Nat) : Int), .int .i64 ((o % b.next.length : Nat) : Int)]) 0 inf86 rfl rfl rfl rfl rfl rfl (by simp [putL]) ?_)
    refine TO.nil (T.region ?_)
    refine TO.quiet (q_assign rfl) ?_
    refine TO.nil (T.block (T.seq (T.seq (T.region ?_))))
    refine TO.quiet (q_load_box 4 Tryd.underlying79 rfl rfl rfl rfl) (TO.quiet (q_nilCheck rfl) (TO.quiet (q_fieldAddr Tryd.underlying90 rfl inf87 rfl rfl) (TO.quiet (q_load_box 10 Tryd.underlying87 rfl rfl rfl rfl) ?_)))
    refine TO.quiet (q_len Tryd.underlying87 rfl) (TO.quiet (QT.toB (q_gtr rfl rfl) (decide_eq_false (by omega))) ?_)
    refine TO.nil ?_
    refine T.cond0 rfl ?_
    refine T.skip ?_
    refine T.draws [oI z8 86 [.int .i64 ((o / b.next.length : Nat) : Int), .int .i64 ((o % b.next.length : Nat) : Int)], oI z7 25 [(.int .i64 a.vars), (.int .i64 0), (.slice nbm n1 ncm), (.slice fbm n2 fcm)], oI z6 79 [(.pointer (some ⟨bp, 0, none⟩))], oI z5 29 [(.int .i64 0)], oI z4 25 [(.int .i64 0), (.int .i64 0), (.slice none 0 0), (.slice none 0 0)], oI z3 60 [(.func (.func g) #[] #[])], oI z2 25 (dC b k), oI z1 25 (dC a j), oI bp 90 [(.int .i64 a.vars), (.int .i64 a.start), (.slice j.nb a.next.length j.nc), (.slice j.fb a.final.length j.fc), (.int .i64 b.vars), (.int .i64 b.start), (.slice k.nb b.next.length k.nc), (.slice k.fb b.final.length k.fc), (.slice qb ((bfsN (prodD f a b) (i + 1)).length) qc), (.map (some m))]] [(0, 0), (1, 0), (2, 0), (5, 0), (6, 0), (7, 0), (8, 0), (9, 0), (10, 0), (11, 0), (12, 0), (13, 0), (14, 0), (15, 0), (16, 0), (17, 0), (18, 0), (19, 0), (3, 1), (4, 1), (23, 0), (20, 1), (21, 1), (22, 1), (24, 2), (25, 2), (26, 2)] mixed (by kernel_rfl) (by exact Sub.k (.d (.d (.k (.k (.k (.k (.k (.k (.k (.k .z))))))))))) (fun _ _ _ h => h) ?_
    refine DO.quiet rfl (q_fieldAddr Tryd.underlying25 rfl inf22 rfl rfl) (DO.quiet rfl (q_load_box 1 Tryd.underlying22 rfl rfl rfl rfl) (DO.quiet rfl (q_move rfl) (DO.quiet rfl (q_fieldAddr Tryd.underlying25 rfl inf23 rfl rfl) ?_)))
    refine DO.quiet rfl (q_load_box 1 Tryd.underlying23 rfl rfl rfl rfl) (DO.quiet rfl (q_load_box 5 Tryd.underlying60 rfl rfl rfl rfl) (DO.quiet rfl (q_fieldAddr Tryd.underlying25 rfl inf23 rfl rfl) (DO.quiet rfl (q_load_box 7 Tryd.underlying23 rfl rfl rfl rfl) ?_)))
    refine DO.quiet rfl (q_fieldAddr Tryd.underlying86 rfl inf3 rfl rfl) (DO.quiet rfl (q_load_box 0 Tryd.underlying3 rfl rfl rfl rfl) (DO.quiet rfl (q_ix (i := (o / b.next.length)) Tryd.underlying23 inf4 rfl rfl (Sl.o ha.final) (by rw [va.fin]; exact hs) (by rw [List.length_map, va.fin]; exact hs)) (DO.quiet rfl (q_ld Tryd.underlying4 rfl rfl (Sl.o ha.final) hfa) ?_)))
    refine DO.quiet rfl (q_fieldAddr Tryd.underlying25 rfl inf23 rfl rfl) (DO.quiet rfl (q_load_box 6 Tryd.underlying23 rfl rfl rfl rfl) (DO.quiet rfl (q_fieldAddr Tryd.underlying86 rfl inf3 rfl rfl) (DO.quiet rfl (q_load_box 0 Tryd.underlying3 rfl rfl rfl rfl) ?_)))
    refine DO.quiet rfl (q_ix (i := (o % b.next.length)) Tryd.underlying23 inf4 rfl rfl (Sl.o hb.final) (by rw [vb.fin]; exact ht) (by rw [List.length_map, vb.fin]; exact ht)) (DO.quiet rfl (q_ld Tryd.underlying4 rfl rfl (Sl.o hb.final) hfb) ?_)
    refine DO.loud rfl rfl (l_build1 (v := (.slice (some ⟨rb, 0, none⟩) L L)) Tryd.underlying22 inf52 rfl rfl rfl (fun z9 => ⟨by exact Sub.d (.k (.d (.d (.k (.k (.k (.k (.k (.k (.k (.k .z))))))))))), ?_⟩))
    refine DO.loud rfl rfl (l_append 2 Tryd.underlying22 Tryd.underlying22 inf52 rfl rfl rfl rfl (by simp; omega) (by decide) (Src.row (j := 0) rfl (by simp)) (by simp [oneB]) (by omega) (by decide) (by decide) (fun z10 zc11 => ⟨by exact Sub.d (.k (.d (.d (.k (.k (.k (.k (.k (.k (.k (.k .z))))))))))), ?_⟩))
    refine DO.quiet rfl (q_fieldAddr Tryd.underlying25 rfl inf22 rfl rfl) ?_
    have hk57 := CallV.under (B := ([rowI (some ⟨z9, 0, none⟩) 1 52 1 [(.slice (some ⟨rb, 0, none⟩) L L)], oI z8 86 [.int .i64 ((o / b.next.length : Nat) : Int), .int .i64 ((o % b.next.length : Nat) : Int)], rowI z10 zc11 52 1 ((vals qs) ++ [(.slice (some ⟨rb, 0, none⟩) L L)]), rowI fbm fcm 4 1 (bools fs), oI z7 25 [(.int .i64 a.vars), (.int .i64 0), (.slice nbm n1 ncm), (.slice fbm n2 fcm)], oI z6 79 [(.pointer (some ⟨bp, 0, none⟩))], oI z5 29 [(.int .i64 0)], oI z4 25 [(.int .i64 0), (.int .i64 0), (.slice none 0 0), (.slice none 0 0)], oI z3 60 [(.func (.func g) #[] #[])], oI z2 25 (dC b k), oI z1 25 (dC a j), oI bp 90 [(.int .i64 a.vars), (.int .i64 a.start), (.slice j.nb a.next.length j.nc), (.slice j.fb a.final.length j.fc), (.int .i64 b.vars), (.int .i64 b.start), (.slice k.nb b.next.length k.nc), (.slice k.fb b.final.length k.fc), (.slice qb ((bfsN (prodD f a b) (i + 1)).length) qc), (.map (some m))], rowI qb qc 86 2 (prs b.next.length (bfsN (prodD f a b) (i + 1))), mapI pairV (fun n : Nat => Value.int .i64 (n : Int)) m (pmap b.next.length (bfsN (prodD f a b) (i + 1))), rowI (some ⟨rb, 0, none⟩) L 3 1 (ints (rnR (prodD f a b) o))] ++ itms 3 qs)) (O := ([rowI (some ⟨z9, 0, none⟩) 1 52 1 [(.slice (some ⟨rb, 0, none⟩) L L)], oI z8 86 [.int .i64 ((o / b.next.length : Nat) : Int), .int .i64 ((o % b.next.length : Nat) : Int)], rowI z10 zc11 52 1 ((vals qs) ++ [(.slice (some ⟨rb, 0, none⟩) L L)]), rowI fbm fcm 4 1 (bools fs), oI z7 25 [(.int .i64 a.vars), (.int .i64 0), (.slice nbm n1 ncm), (.slice fbm n2 fcm)], oI z6 79 [(.pointer (some ⟨bp, 0, none⟩))], oI z5 29 [(.int .i64 0)], oI z4 25 [(.int .i64 0), (.int .i64 0), (.slice none 0 0), (.slice none 0 0)], oI z3 60 [(.func (.func g) #[] #[])], oI z2 25 (dC b k), oI z1 25 (dC a j), oI bp 90 [(.int .i64 a.vars), (.int .i64 a.start), (.slice j.nb a.next.length j.nc), (.slice j.fb a.final.length j.fc), (.int .i64 b.vars), (.int .i64 b.start), (.slice k.nb b.next.length k.nc), (.slice k.fb b.final.length k.fc), (.slice qb ((bfsN (prodD f a b) (i + 1)).length) qc), (.map (some m))], rowI qb qc 86 2 (prs b.next.length (bfsN (prodD f a b) (i + 1))), mapI pairV (fun n : Nat => Value.int .i64 (n : Int)) m (pmap b.next.length (bfsN (prodD f a b) (i + 1))), rowI (some ⟨rb, 0, none⟩) L 3 1 (ints (rnR (prodD f a b) o))] ++ (itms 3 qs))) (hf w (finN a (o / b.next.length)) (finN b (o % b.next.length))) (by exact Sub.rf)
    refine DO.loud rfl rfl (l_callG hk57 rfl rfl ?_)
    clear hk57
    rintro vr O' ⟨A1, rfl, rfl, rfl⟩
    refine ⟨by exact Sub.d (.k (.d (.d (.k (.k (.k (.k (.k (.k (.k (.k .z))))))))))), ?_⟩
    refine DO.loud rfl rfl (l_build1 (v := .bool (f (finN a (o / b.next.length)) (finN b (o % b.next.length)))) Tryd.underlying23 inf4 rfl rfl rfl (fun z12 => ⟨by exact Sub.d (.d (.k (.d (.d (.k (.k (.k (.k (.k (.k (.k (.k .z)))))))))))), ?_⟩))
    refine DO.loud rfl rfl (l_append 4 Tryd.underlying23 Tryd.underlying23 inf4 rfl rfl rfl rfl (by simp; omega) (by decide) (Src.row (j := 0) rfl (by simp)) (by simp [oneB]) (by omega) (by decide) (by decide) (fun z13 zc14 => ⟨by exact Sub.d (.d (.k (.d (.d (.k (.k (.k (.k (.k (.k (.k (.k .z)))))))))))), ?_⟩))
    refine DO.last rfl rfl (l_store_box (v := (.slice z10 (n1 + 1) zc11)) (vs := [(.slice z10 (n1 + 1) zc11)]) 5 inf22 rfl rfl rfl rfl rfl rfl (by simp [putL]) ?_)
    refine DO.last rfl rfl (LT.of_quiet rfl rfl (q_fieldAddr Tryd.underlying25 rfl inf23 rfl rfl) ?_)
    refine DO.last rfl rfl (l_store_box (v := (.slice z13 (n2 + 1) zc14)) (vs := [(.slice z13 (n2 + 1) zc14)]) 5 inf23 rfl rfl rfl rfl rfl rfl (by simp [putL]) ?_)
    refine DO.sub (O' := ([rowI z10 zc11 52 1 ((vals qs) ++ [(.slice (some ⟨rb, 0, none⟩) L L)]), rowI z13 zc14 4 1 ((bools fs) ++ [.bool (f (finN a (o / b.next.length)) (finN b (o % b.next.length)))]), oI z7 25 [(.int .i64 a.vars), (.int .i64 0), (.slice z10 (n1 + 1) zc11), (.slice z13 (n2 + 1) zc14)], oI z6 79 [(.pointer (some ⟨bp, 0, none⟩))], oI z5 29 [(.int .i64 0)], oI z4 25 [(.int .i64 0), (.int .i64 0), (.slice none 0 0), (.slice none 0 0)], oI z3 60 [(.func (.func g) #[] #[])], oI z2 25 (dC b k), oI z1 25 (dC a j), rowI (some ⟨rb, 0, none⟩) L 3 1 (ints (rnR (prodD f a b) o)), oI bp 90 [(.int .i64 a.vars), (.int .i64 a.start), (.slice j.nb a.next.length j.nc), (.slice j.fb a.final.length j.fc), (.int .i64 b.vars), (.int .i64 b.start), (.slice k.nb b.next.length k.nc), (.slice k.fb b.final.length k.fc), (.slice qb ((bfsN (prodD f a b) (i + 1)).length) qc), (.map (some m))], rowI qb qc 86 2 (prs b.next.length (bfsN (prodD f a b) (i + 1))), mapI pairV (fun n : Nat => Value.int .i64 (n : Int)) m (pmap b.next.length (bfsN (prodD f a b) (i + 1)))] ++ itms 3 qs)) (by exact Sub.d (.d (.d (.k (.k (.k (.k (.k (.k (.k (.k (.k (.pull [oI bp 90 [(.int .i64 a.vars), (.int .i64 a.start), (.slice j.nb a.next.length j.nc), (.slice j.fb a.final.length j.fc), (.int .i64 b.vars), (.int .i64 b.start), (.slice k.nb b.next.length k.nc), (.slice k.fb b.final.length k.fc), (.slice qb ((bfsN (prodD f a b) (i + 1)).length) qc), (.map (some m))], rowI qb qc 86 2 (prs b.next.length (bfsN (prodD f a b) (i + 1))), mapI pairV (fun n : Nat => Value.int .i64 (n : Int)) m (pmap b.next.length (bfsN (prodD f a b) (i + 1)))] _ (.k (.k (.k .rf)))))))))))))))) ?_
    refine DO.sub (O' := (([rowI z10 zc11 52 1 (vals (qs ++ [⟨some ⟨rb, 0, none⟩, L, rnR (prodD f a b) o⟩])), rowI z13 zc14 4 1 (bools (fs ++ [f (finN a (o / b.next.length)) (finN b (o % b.next.length))])), oI z7 25 [(.int .i64 a.vars), (.int .i64 0), (.slice z10 (n1 + 1) zc11), (.slice z13 (n2 + 1) zc14)], oI z6 79 [(.pointer (some ⟨bp, 0, none⟩))], oI z5 29 [(.int .i64 0)], oI z4 25 [(.int .i64 0), (.int .i64 0), (.slice none 0 0), (.slice none 0 0)], oI z3 60 [(.func (.func g) #[] #[])], oI z2 25 (dC b k), oI z1 25 (dC a j)] ++ itms 3 (qs ++ [⟨some ⟨rb, 0, none⟩, L, rnR (prodD f a b) o⟩])) ++ [oI bp 90 [(.int .i64 a.vars), (.int .i64 a.start), (.slice j.nb a.next.length j.nc), (.slice j.fb a.final.length j.fc), (.int .i64 b.vars), (.int .i64 b.start), (.slice k.nb b.next.length k.nc), (.slice k.fb b.final.length k.fc), (.slice qb ((bfsN (prodD f a b) (i + 1)).length) qc), (.map (some m))], rowI qb qc 86 2 (prs b.next.length (bfsN (prodD f a b) (i + 1))), mapI pairV (fun n : Nat => Value.int .i64 (n : Int)) m (pmap b.next.length (bfsN (prodD f a b) (i + 1)))])) (by rw [hvq, hbq]; exact Sub.fold [rowI z10 zc11 52 1 ((vals qs) ++ [(.slice (some ⟨rb, 0, none⟩) L L)]), rowI z13 zc14 4 1 ((bools fs) ++ [.bool (f (finN a (o / b.next.length)) (finN b (o % b.next.length)))]), oI z7 25 [(.int .i64 a.vars), (.int .i64 0), (.slice z10 (n1 + 1) zc11), (.slice z13 (n2 + 1) zc14)], oI z6 79 [(.pointer (some ⟨bp, 0, none⟩))], oI z5 29 [(.int .i64 0)], oI z4 25 [(.int .i64 0), (.int .i64 0), (.slice none 0 0), (.slice none 0 0)], oI z3 60 [(.func (.func g) #[] #[])], oI z2 25 (dC b k), oI z1 25 (dC a j)] (rowI (some ⟨rb, 0, none⟩) L 3 1 (ints (rnR (prodD f a b) o))) [oI bp 90 [(.int .i64 a.vars), (.int .i64 a.start), (.slice j.nb a.next.length j.nc), (.slice j.fb a.final.length j.fc), (.int .i64 b.vars), (.int .i64 b.start), (.slice k.nb b.next.length k.nc), (.slice k.fb b.final.length k.fc), (.slice qb ((bfsN (prodD f a b) (i + 1)).length) qc), (.map (some m))], rowI qb qc 86 2 (prs b.next.length (bfsN (prodD f a b) (i + 1))), mapI pairV (fun n : Nat => Value.int .i64 (n : Int)) m (pmap b.next.length (bfsN (prodD f a b) (i + 1)))] (itms 3 qs) _ (itms_snoc 3 qs ⟨some ⟨rb, 0, none⟩, L, rnR (prodD f a b) o⟩)) ?_
    refine DO.done ?_
    refine .inl ⟨rfl, _, rfl, z10, z13, zc11, zc14, n1 + 1, n2 + 1, qs ++ [⟨some ⟨rb, 0, none⟩, L, rnR (prodD f a b) o⟩], fs ++ [f (finN a (o / b.next.length)) (finN b (o % b.next.length))], rfl, by omega, by omega, by simp [hql], by simp [hfl], ?_, ?_⟩
    · rw [take_at hoa, List.map_append]
      show List.map Rec.xs (qs ++ [_]) = _
      rw [List.map_append, show List.map Rec.xs qs = _ from hqs]; rfl
    · rw [take_at hoa, List.map_append, hfs, ← pr_fin_at (f := f) ho]; rfl
  · refine ⟨none, none, 0, 0, 0, 0, [], [], rfl, rfl, rfl, rfl, rfl, by simp, by simp⟩
  rintro v O' (⟨N, qbF, qcF, O2, rfl, hN, nbm, fbm, ncm, fcm, n1, n2, qs, fs, rfl, hn1, hn2, hql, hfl, hqs, hfs⟩ | hF)
  rotate_left
  · exact hF.elim
  refine ⟨none, _, rfl, ?_⟩
  refine T.seq ?_
  refine T.sub (O' := ([rowI nbm ncm 52 1 (vals qs), rowI fbm fcm 4 1 (bools fs), oI z7 25 [(.int .i64 a.vars), (.int .i64 0), (.slice nbm n1 ncm), (.slice fbm n2 fcm)], oI z6 79 [(.pointer (some ⟨bp, 0, none⟩))], oI z5 29 [(.int .i64 0)], oI z4 25 [(.int .i64 0), (.int .i64 0), (.slice none 0 0), (.slice none 0 0)], oI z3 60 [(.func (.func g) #[] #[])], oI z2 25 (dC b k), oI z1 25 (dC a j)] ++ itms 3 qs)) (Sub.of (List.sublist_append_left _ _)) ?_
  have hor := pr_stop va vb hv hN
  have hol : (order (prodD f a b)).length = N := by rw [hor]; exact hN
  have e1 : nums qs = (renum (prodD f a b)).next := by rw [hqs, ← hol, List.take_length]; exact (renum_rows _).symm
  have e2 : fs = (renum (prodD f a b)).final := by rw [hfs, ← hol, List.take_length]; rfl
  obtain rfl : n1 = (renum (prodD f a b)).next.length := by rw [renum_rows, List.length_map]; omega
  obtain rfl : n2 = (renum (prodD f a b)).final.length := by rw [renum_fins, List.length_map]; omega
  subst e2
  have vD := prod_valid (f := f) va vb hv hn
  have vR := renum_valid vD
  refine T.sub (O' := ([rowI nbm ncm 52 1 (vals qs), rowI fbm fcm 4 1 (bools (renum (prodD f a b)).final), oI z7 25 [(.int .i64 (renum (prodD f a b)).vars), (.int .i64 (renum (prodD f a b)).start), (.slice nbm ((renum (prodD f a b)).next.length) ncm), (.slice fbm ((renum (prodD f a b)).final.length) fcm)], oI z6 79 [(.pointer (some ⟨bp, 0, none⟩))], oI z5 29 [(.int .i64 0)], oI z4 25 [(.int .i64 0), (.int .i64 0), (.slice none 0 0), (.slice none 0 0)], oI z3 60 [(.func (.func g) #[] #[])], oI z2 25 (dC b k), oI z1 25 (dC a j)] ++ itms 3 qs)) (by exact Sub.rf) ?_
  refine T.region ?_
  refine TO.quiet (q_load_boxAgg 2 Tryd.underlying25 rfl inf25 rfl rfl rfl) ?_
  have hk63 := fun (w1 : World) (hI : Inv w ([rowI nbm ncm 52 1 (vals qs), rowI fbm fcm 4 1 (bools (renum (prodD f a b)).final), oI z7 25 [(.int .i64 (renum (prodD f a b)).vars), (.int .i64 (renum (prodD f a b)).start), (.slice nbm ((renum (prodD f a b)).next.length) ncm), (.slice fbm ((renum (prodD f a b)).final.length) fcm)], oI z6 79 [(.pointer (some ⟨bp, 0, none⟩))], oI z5 29 [(.int .i64 0)], oI z4 25 [(.int .i64 0), (.int .i64 0), (.slice none 0 0), (.slice none 0 0)], oI z3 60 [(.func (.func g) #[] #[])], oI z2 25 (dC b k), oI z1 25 (dC a j)] ++ (itms 3 qs)) w1) => minKE w1 (renum (prodD f a b)) ⟨nbm, ncm, fbm, fcm, qs⟩ (show At w1 (renum (prodD f a b)) ⟨nbm, ncm, fbm, fcm, qs⟩ from ⟨hI.slOf (List.mem_of_getElem? (i := 0) rfl), e1 ▸ hI.recs (fun q hq => List.mem_append_right _ (List.mem_map_of_mem (f := Rec.itm 3) hq)), hI.slOf (List.mem_of_getElem? (i := 1) rfl)⟩) vR (by rw [renum_rows, List.length_map]; exact hN9) (minD_renum vD)
  refine TO.loud rfl (l_call ent21 (CallT.of_pure hk63) rfl ?_)
  clear hk63
  rintro vr O' ⟨N9, rfl, k', rfl, rfl⟩
  refine TO.quiet (q_extract (vs := _) rfl rfl) (TO.quiet (q_extract (vs := _) rfl rfl) ?_)
  refine TO.loud rfl (l_store_box (v := (.agg #[(.int .i64 (minD (prodD f a b)).vars), (.int .i64 (minD (prodD f a b)).start), (.slice k'.nb ((minD (prodD f a b)).next.length) k'.nc), (.slice k'.fb ((minD (prodD f a b)).final.length) k'.fc)])) (vs := [(.int .i64 (minD (prodD f a b)).vars), (.int .i64 (minD (prodD f a b)).start), (.slice k'.nb ((minD (prodD f a b)).next.length) k'.nc), (.slice k'.fb ((minD (prodD f a b)).final.length) k'.fc)]) 6 inf25 rfl rfl rfl rfl rfl rfl (by simp [putL]) ?_)
  refine TO.loud rfl (l_store_box (v := .int .i64 0) (vs := [(.int .i64 0)]) 5 inf29 rfl rfl rfl rfl rfl rfl (by simp [putL]) ?_)
  refine TO.nil (T.ret (Res.drop ?_))
  refine Res.cell2a (i := 6) (j := 5) Tryd.results43 Tryd.underlying25 rfl inf25 Tryd.underlying29 rfl rfl rfl rfl rfl rfl ?_
  exact ⟨[dI 52 4 3 (minD (prodD f a b)) k'], (by exact Sub.k .z), k', rfl, rfl⟩
set_option maxHeartbeats 1000000 in
set_option maxRecDepth 20000 in
theorem combineBig (w : World) (a b : DFA) (j k : DK) (ha : At w a j) (hb : At w b k) (va : Valid a) (vb : Valid b) (hv : a.vars = b.vars) (f : Bool → Bool → Bool) (g : Nat) (hf : ∀ (base : World) (x y : Bool), CallV Tryd.prog base (.func (.func g) #[] #[]) [.bool x, .bool y] [] (fun v O' => v = .bool (f x y) ∧ O' = [])) (hbig : 4096 < (order (prodD f a b)).length) :
    PureT Tryd.prog 43 [dV a j, dV b k, .func (.func g) #[] #[]] w fun v N => v = .tuple #[dV noD ⟨none, 0, none, 0, []⟩, .int .i64 10] ∧ N = [] := by
  refine CallT.enter Tryd.func43 rfl Tryd.ntmps43 rfl ?_
  have h4 : a.next.length * b.next.length ≤ 4096 * 4096 := Nat.mul_le_mul va.n4 vb.n4
  obtain ⟨L, hL⟩ : ∃ L, 2 ^ a.vars.toNat = L := ⟨_, rfl⟩
  have hw : L ≤ 64 := by rw [← hL]; exact va.width
  refine T.seq (T.region ?_)
  refine TO.loud rfl (l_box (v := (dV a j)) (cs := (dC a j)) rfl rfl (fun z1 => ?_))
  refine TO.loud rfl (l_box (v := (dV b k)) (cs := (dC b k)) rfl rfl (fun z2 => ?_))
  refine TO.loud rfl (l_box (v := (.func (.func g) #[] #[])) (cs := [(.func (.func g) #[] #[])]) rfl rfl (fun z3 => ?_))
  refine TO.loud rfl (l_alloc inf25 rfl (fun z4 => ?_))
  refine TO.loud rfl (l_alloc inf29 rfl (fun z5 => ?_))
  refine TO.nil (T.seq (T.region ?_))
  refine TO.quiet (q_load_boxAgg 4 Tryd.underlying25 rfl inf25 rfl rfl rfl) (TO.quiet (q_load_boxAgg 3 Tryd.underlying25 rfl inf25 rfl rfl rfl) ?_)
  have hk16 := fun (w1 : World) (hI : Inv w [oI z5 29 [(.int .i64 0)], oI z4 25 [(.int .i64 0), (.int .i64 0), (.slice none 0 0), (.slice none 0 0)], oI z3 60 [(.func (.func g) #[] #[])], oI z2 25 (dC b k), oI z1 25 (dC a j)] w1) => beginOk w1 a b j k (hI.atB ha) (hI.atB hb) va vb hv
  refine TO.loud rfl (l_call ent69 (CallT.of_pure hk16) rfl ?_)
  clear hk16
  rintro vr O' ⟨N, rfl, bp, qb, m, rfl, rfl⟩
  refine TO.quiet (q_move rfl) (TO.quiet (q_extract (vs := _) rfl rfl) (TO.quiet (q_extract (vs := _) rfl rfl) ?_))
  refine TO.loud rfl (l_alloc inf79 rfl (fun z6 => ?_))
  refine TO.loud rfl (l_store_box (v := (.pointer (some ⟨bp, 0, none⟩))) (vs := [(.pointer (some ⟨bp, 0, none⟩))]) 0 inf79 rfl rfl rfl rfl rfl rfl (by simp [putL]) ?_)
  refine TO.quiet (q_assign rfl) ?_
  refine TO.nil (T.seq (T.seq (T.region ?_)))
  refine TO.quiet (q_move rfl) (TO.quiet (q_neq rfl rfl) ?_)
  refine TO.nil ?_
  refine T.cond0 rfl ?_
  refine T.skip (T.seq (T.region ?_))
  refine TO.quiet (q_fieldAddr Tryd.underlying25 rfl inf3 rfl rfl) (TO.quiet (q_load_box 8 Tryd.underlying3 rfl rfl rfl rfl) (TO.quiet (q_build (cs := [(.int .i64 a.vars), (.int .i64 0), (.slice none 0 0), (.slice none 0 0)]) plan25 inf25 (by kernel_rfl)) ?_))
  refine TO.loud rfl (l_alloc inf25 rfl (fun z7 => ?_))
  refine TO.loud rfl (l_store_box (v := (.agg #[(.int .i64 a.vars), (.int .i64 0), (.slice none 0 0), (.slice none 0 0)])) (vs := [(.int .i64 a.vars), (.int .i64 0), (.slice none 0 0), (.slice none 0 0)]) 0 inf25 rfl rfl rfl rfl rfl rfl (by simp [putL]) ?_)
  refine TO.nil (T.seq (T.seq ?_))
  refine T.nilRow 4 1 ?_
  refine T.nilRow 52 1 ?_
  refine T.region ?_
  refine TO.quiet (q_load_box 3 Tryd.underlying79 rfl rfl rfl rfl) ?_
  have hk27 := fun (w1 : World) (hI : Inv w [rowI none 0 52 1 (vals []), rowI none 0 4 1 (bools []), oI z7 25 [(.int .i64 a.vars), (.int .i64 0), (.slice none 0 0), (.slice none 0 0)], oI z6 79 [(.pointer (some ⟨bp, 0, none⟩))], oI bp 90 [(.int .i64 a.vars), (.int .i64 a.start), (.slice j.nb a.next.length j.nc), (.slice j.fb a.final.length j.fc), (.int .i64 b.vars), (.int .i64 b.start), (.slice k.nb b.next.length k.nc), (.slice k.fb b.final.length k.fc), (.slice (some ⟨qb, 0, none⟩) ([a.start.toNat * b.next.length + b.start.toNat].length) 1), (.map (some m))], rowI (some ⟨qb, 0, none⟩) 1 86 2 (prs b.next.length [a.start.toNat * b.next.length + b.start.toNat]), mapI pairV (fun n : Nat => Value.int .i64 (n : Int)) m (pmap b.next.length [a.start.toNat * b.next.length + b.start.toNat]), oI z5 29 [(.int .i64 0)], oI z4 25 [(.int .i64 0), (.int .i64 0), (.slice none 0 0), (.slice none 0 0)], oI z3 60 [(.func (.func g) #[] #[])], oI z2 25 (dC b k), oI z1 25 (dC a j)] w1) => pairsF w1 bp
  refine TO.loud rfl (l_call ent70 (CallT.of_pure hk27) rfl ?_)
  clear hk27
  rintro vr O' ⟨N, rfl, bP, rfl, rfl⟩
  refine TO.nil (T.block ?_)
  refine T.rangeFunc (first := []) (caps := [(.pointer (some ⟨bP, 0, none⟩))]) rfl ent87 (fun yl yq yhq => ?_)
  refine CallT.mono (CallT.sub (O' := oI bP 79 [(.pointer (some ⟨bp, 0, none⟩))] :: oI bp 90 [(.int .i64 a.vars), (.int .i64 a.start), (.slice j.nb a.next.length j.nc), (.slice j.fb a.final.length j.fc), (.int .i64 b.vars), (.int .i64 b.start), (.slice k.nb b.next.length k.nc), (.slice k.fb b.final.length k.fc), (.slice (some ⟨qb, 0, none⟩) ([a.start.toNat * b.next.length + b.start.toNat].length) 1), (.map (some m))] :: rowI (some ⟨qb, 0, none⟩) 1 86 2 (prs b.next.length [a.start.toNat * b.next.length + b.start.toNat]) :: mapI pairV (fun n : Nat => Value.int .i64 (n : Int)) m (pmap b.next.length [a.start.toNat * b.next.length + b.start.toNat]) :: (objI yl (lp yq none) :: [rowI none 0 52 1 (vals []), rowI none 0 4 1 (bools []), oI z7 25 [(.int .i64 a.vars), (.int .i64 0), (.slice none 0 0), (.slice none 0 0)], oI z6 79 [(.pointer (some ⟨bp, 0, none⟩))], oI z5 29 [(.int .i64 0)], oI z4 25 [(.int .i64 0), (.int .i64 0), (.slice none 0 0), (.slice none 0 0)], oI z3 60 [(.func (.func g) #[] #[])], oI z2 25 (dC b k), oI z1 25 (dC a j)])) (Sub.pick [1, 5, 5, 5, 0, 0, 0, 0, 0, 0, 0, 0, 0, 0] rfl) (pairs1 w f a b j k ha hb va vb hv L hL bP bp m (some ⟨qb, 0, none⟩) 1 (.func (.yield yl) #[] #[]) (fun i O => ∃ (nbm fbm : Option Addr) (ncm fcm n1 n2 : Nat) (qs : List Rec) (fs : List Bool), O = objI yl (lp yq none) :: ([rowI nbm ncm 52 1 (vals qs), rowI fbm fcm 4 1 (bools fs), oI z7 25 [(.int .i64 a.vars), (.int .i64 0), (.slice nbm n1 ncm), (.slice fbm n2 fcm)], oI z6 79 [(.pointer (some ⟨bp, 0, none⟩))], oI z5 29 [(.int .i64 0)], oI z4 25 [(.int .i64 0), (.int .i64 0), (.slice none 0 0), (.slice none 0 0)], oI z3 60 [(.func (.func g) #[] #[])], oI z2 25 (dC b k), oI z1 25 (dC a j)] ++ (itms 3 qs)) ∧ n1 = i ∧ n2 = i ∧ qs.length = i ∧ fs.length = i ∧ nums qs = ((order (prodD f a b)).take i).map (rnR (prodD f a b)) ∧ fs = ((order (prodD f a b)).take i).map (finN (prodD f a b)) ∧ (bfsN (prodD f a b) i).length ≤ 4096) (fun O => O = objI yl (lp yq (some .ret)) :: [oI z5 29 [(.int .i64 10)], oI z4 25 [(.int .i64 0), (.int .i64 0), (.slice none 0 0), (.slice none 0 0)]]) ?_ _ ?_)) ?_
  · intro i o qb qc rb O hq hJ
    obtain ⟨nbm, fbm, ncm, fcm, n1, n2, qs, fs, rfl, hn1, hn2, hql, hfl, hqs, hfs, hle⟩ := hJ
    refine CallV.yield yhq rfl rfl ?_
    refine T.sub (O' := ([rowI nbm ncm 52 1 (vals qs), rowI fbm fcm 4 1 (bools fs), oI z7 25 [(.int .i64 a.vars), (.int .i64 0), (.slice nbm n1 ncm), (.slice fbm n2 fcm)], oI z6 79 [(.pointer (some ⟨bp, 0, none⟩))], oI z5 29 [(.int .i64 0)], oI z4 25 [(.int .i64 0), (.int .i64 0), (.slice none 0 0), (.slice none 0 0)], oI z3 60 [(.func (.func g) #[] #[])], oI z2 25 (dC b k), oI z1 25 (dC a j), oI bp 90 [(.int .i64 a.vars), (.int .i64 a.start), (.slice j.nb a.next.length j.nc), (.slice j.fb a.final.length j.fc), (.int .i64 b.vars), (.int .i64 b.start), (.slice k.nb b.next.length k.nc), (.slice k.fb b.final.length k.fc), (.slice qb ((bfsN (prodD f a b) (i + 1)).length) qc), (.map (some m))], rowI qb qc 86 2 (prs b.next.length (bfsN (prodD f a b) (i + 1))), mapI pairV (fun n : Nat => Value.int .i64 (n : Int)) m (pmap b.next.length (bfsN (prodD f a b) (i + 1))), rowI (some ⟨rb, 0, none⟩) L 3 1 (ints (rnR (prodD f a b) o))] ++ itms 3 qs)) (by exact Sub.swap3 [rowI nbm ncm 52 1 (vals qs), rowI fbm fcm 4 1 (bools fs), oI z7 25 [(.int .i64 a.vars), (.int .i64 0), (.slice nbm n1 ncm), (.slice fbm n2 fcm)], oI z6 79 [(.pointer (some ⟨bp, 0, none⟩))], oI z5 29 [(.int .i64 0)], oI z4 25 [(.int .i64 0), (.int .i64 0), (.slice none 0 0), (.slice none 0 0)], oI z3 60 [(.func (.func g) #[] #[])], oI z2 25 (dC b k), oI z1 25 (dC a j)] [oI bp 90 [(.int .i64 a.vars), (.int .i64 a.start), (.slice j.nb a.next.length j.nc), (.slice j.fb a.final.length j.fc), (.int .i64 b.vars), (.int .i64 b.start), (.slice k.nb b.next.length k.nc), (.slice k.fb b.final.length k.fc), (.slice qb ((bfsN (prodD f a b) (i + 1)).length) qc), (.map (some m))], rowI qb qc 86 2 (prs b.next.length (bfsN (prodD f a b) (i + 1))), mapI pairV (fun n : Nat => Value.int .i64 (n : Int)) m (pmap b.next.length (bfsN (prodD f a b) (i + 1))), rowI (some ⟨rb, 0, none⟩) L 3 1 (ints (rnR (prodD f a b) o))] (itms 3 qs)) ?_
    have hbl := pr_bfs_len (f := f) va vb hv i
    have hil := (List.getElem?_eq_some_iff.1 hq).1
    have ho := (pr_bfs_ok (f := f) va vb hv i).2 o (List.mem_of_getElem? hq)
    obtain ⟨hs, ht⟩ := pr_split ho
    have hoa := bfs_at hq (by rw [prod_len]; omega)
    have hfa : (bools a.final)[o / b.next.length]? = some (.bool (finN a (o / b.next.length))) := by
      have hl : o / b.next.length < a.final.length := by rw [va.fin]; exact hs
      rw [bools_get hl]; unfold finN; rw [List.getD_eq_getElem?_getD, List.getElem?_eq_getElem hl]; rfl
    have hfb : (bools b.final)[o % b.next.length]? = some (.bool (finN b (o % b.next.length))) := by
      have hl : o % b.next.length < b.final.length := by rw [vb.fin]; exact ht
      rw [bools_get hl]; unfold finN; rw [List.getD_eq_getElem?_getD, List.getElem?_eq_getElem hl]; rfl
    have hrl : (rnR (prodD f a b) o).length = L := by unfold rnR; rw [List.length_map, renRow_length]; exact hL
    have hvq : vals (qs ++ [⟨some ⟨rb, 0, none⟩, L, rnR (prodD f a b) o⟩]) = vals qs ++ [.slice (some ⟨rb, 0, none⟩) L L] := by simp [Rec.val, hrl]
    have hbq : bools (fs ++ [f (finN a (o / b.next.length)) (finN b (o % b.next.length))]) = bools fs ++ [.bool (f (finN a (o / b.next.length)) (finN b (o % b.next.length)))] := by simp
    have hbl2 := pr_bfs_len (f := f) va vb hv (i + 1)
    refine T.seq (T.region ?_)
    refine TO.loud rfl (l_alloc inf86 rfl (fun z8 => ?_))
    refine TO.loud rfl (l_store_box (v := (.agg #[.int .i64 ((o / b.next.length : Nat) : Int), .int .i64 ((o % b.next.length : Nat) : Int)])) (vs := [.int .i64 ((o / b.next.length : Nat) : Int), .int .i64 ((o % b.next.length : Nat) : Int)]) 0 inf86 rfl rfl rfl rfl rfl rfl (by simp [putL]) ?_)
    refine TO.nil (T.region ?_)
    refine TO.quiet (q_assign rfl) ?_
    refine TO.nil (T.block (T.seq (T.seq (T.region ?_))))
    refine TO.quiet (q_load_box 4 Tryd.underlying79 rfl rfl rfl rfl) (TO.quiet (q_nilCheck rfl) (TO.quiet (q_fieldAddr Tryd.underlying90 rfl inf87 rfl rfl) (TO.quiet (q_load_box 10 Tryd.underlying87 rfl rfl rfl rfl) ?_)))
    refine TO.quiet (q_len Tryd.underlying87 rfl) (TO.quiet (q_gtr rfl rfl) ?_)
    refine TO.nil ?_
    refine T.condP rfl (fun hc => ?_) (fun hc => ?_)
    · have hlt35 : (bfsN (prodD f a b) (i + 1)).length > 4096 := by omega
      refine T.seq (T.region ?_)
      refine TO.quiet (q_build plan25 inf25 rfl) ?_
      refine TO.loud rfl (l_store_box (v := (.agg #[(.int .i64 0), (.int .i64 0), (.slice none 0 0), (.slice none 0 0)])) (vs := [(.int .i64 0), (.int .i64 0), (.slice none 0 0), (.slice none 0 0)]) 6 inf25 rfl rfl rfl rfl rfl rfl (by simp [putL]) ?_)
      refine TO.loud rfl (l_store_box (v := .int .i64 10) (vs := [(.int .i64 10)]) 5 inf29 rfl rfl rfl rfl rfl rfl (by simp [putL]) ?_)
      refine TO.sub (O' := [oI z5 29 [(.int .i64 10)], oI z4 25 [(.int .i64 0), (.int .i64 0), (.slice none 0 0), (.slice none 0 0)]]) (by exact Sub.d (.d (.d (.d (.d (.k (.k .z))))))) ?_
      refine TO.nil (T.ret ?_)
      exact .inr ⟨rfl, rfl⟩
    have hge35 : ¬ (bfsN (prodD f a b) (i + 1)).length > 4096 := by omega
    refine T.skip ?_
    refine T.draws [oI z8 86 [.int .i64 ((o / b.next.length : Nat) : Int), .int .i64 ((o % b.next.length : Nat) : Int)], oI z7 25 [(.int .i64 a.vars), (.int .i64 0), (.slice nbm n1 ncm), (.slice fbm n2 fcm)], oI z6 79 [(.pointer (some ⟨bp, 0, none⟩))], oI z5 29 [(.int .i64 0)], oI z4 25 [(.int .i64 0), (.int .i64 0), (.slice none 0 0), (.slice none 0 0)], oI z3 60 [(.func (.func g) #[] #[])], oI z2 25 (dC b k), oI z1 25 (dC a j), oI bp 90 [(.int .i64 a.vars), (.int .i64 a.start), (.slice j.nb a.next.length j.nc), (.slice j.fb a.final.length j.fc), (.int .i64 b.vars), (.int .i64 b.start), (.slice k.nb b.next.length k.nc), (.slice k.fb b.final.length k.fc), (.slice qb ((bfsN (prodD f a b) (i + 1)).length) qc), (.map (some m))]] [(0, 0), (1, 0), (2, 0), (5, 0), (6, 0), (7, 0), (8, 0), (9, 0), (10, 0), (11, 0), (12, 0), (13, 0), (14, 0), (15, 0), (16, 0), (17, 0), (18, 0), (19, 0), (3, 1), (4, 1), (23, 0), (20, 1), (21, 1), (22, 1), (24, 2), (25, 2), (26, 2)] mixed (by kernel_rfl) (by exact Sub.k (.d (.d (.k (.k (.k (.k (.k (.k (.k (.k .z))))))))))) (fun _ _ _ h => h) ?_
    refine DO.quiet rfl (q_fieldAddr Tryd.underlying25 rfl inf22 rfl rfl) (DO.quiet rfl (q_load_box 1 Tryd.underlying22 rfl rfl rfl rfl) (DO.quiet rfl (q_move rfl) (DO.quiet rfl (q_fieldAddr Tryd.underlying25 rfl inf23 rfl rfl) ?_)))
    refine DO.quiet rfl (q_load_box 1 Tryd.underlying23 rfl rfl rfl rfl) (DO.quiet rfl (q_load_box 5 Tryd.underlying60 rfl rfl rfl rfl) (DO.quiet rfl (q_fieldAddr Tryd.underlying25 rfl inf23 rfl rfl) (DO.quiet rfl (q_load_box 7 Tryd.underlying23 rfl rfl rfl rfl) ?_)))
    refine DO.quiet rfl (q_fieldAddr Tryd.underlying86 rfl inf3 rfl rfl) (DO.quiet rfl (q_load_box 0 Tryd.underlying3 rfl rfl rfl rfl) (DO.quiet rfl (q_ix (i := (o / b.next.length)) Tryd.underlying23 inf4 rfl rfl (Sl.o ha.final) (by rw [va.fin]; exact hs) (by rw [List.length_map, va.fin]; exact hs)) (DO.quiet rfl (q_ld Tryd.underlying4 rfl rfl (Sl.o ha.final) hfa) ?_)))
    refine DO.quiet rfl (q_fieldAddr Tryd.underlying25 rfl inf23 rfl rfl) (DO.quiet rfl (q_load_box 6 Tryd.underlying23 rfl rfl rfl rfl) (DO.quiet rfl (q_fieldAddr Tryd.underlying86 rfl inf3 rfl rfl) (DO.quiet rfl (q_load_box 0 Tryd.underlying3 rfl rfl rfl rfl) ?_)))
    refine DO.quiet rfl (q_ix (i := (o % b.next.length)) Tryd.underlying23 inf4 rfl rfl (Sl.o hb.final) (by rw [vb.fin]; exact ht) (by rw [List.length_map, vb.fin]; exact ht)) (DO.quiet rfl (q_ld Tryd.underlying4 rfl rfl (Sl.o hb.final) hfb) ?_)
    refine DO.loud rfl rfl (l_build1 (v := (.slice (some ⟨rb, 0, none⟩) L L)) Tryd.underlying22 inf52 rfl rfl rfl (fun z9 => ⟨by exact Sub.d (.k (.d (.d (.k (.k (.k (.k (.k (.k (.k (.k .z))))))))))), ?_⟩))
    refine DO.loud rfl rfl (l_append 2 Tryd.underlying22 Tryd.underlying22 inf52 rfl rfl rfl rfl (by simp; omega) (by decide) (Src.row (j := 0) rfl (by simp)) (by simp [oneB]) (by omega) (by decide) (by decide) (fun z10 zc11 => ⟨by exact Sub.d (.k (.d (.d (.k (.k (.k (.k (.k (.k (.k (.k .z))))))))))), ?_⟩))
    refine DO.quiet rfl (q_fieldAddr Tryd.underlying25 rfl inf22 rfl rfl) ?_
    have hk57 := CallV.under (B := ([rowI (some ⟨z9, 0, none⟩) 1 52 1 [(.slice (some ⟨rb, 0, none⟩) L L)], oI z8 86 [.int .i64 ((o / b.next.length : Nat) : Int), .int .i64 ((o % b.next.length : Nat) : Int)], rowI z10 zc11 52 1 ((vals qs) ++ [(.slice (some ⟨rb, 0, none⟩) L L)]), rowI fbm fcm 4 1 (bools fs), oI z7 25 [(.int .i64 a.vars), (.int .i64 0), (.slice nbm n1 ncm), (.slice fbm n2 fcm)], oI z6 79 [(.pointer (some ⟨bp, 0, none⟩))], oI z5 29 [(.int .i64 0)], oI z4 25 [(.int .i64 0), (.int .i64 0), (.slice none 0 0), (.slice none 0 0)], oI z3 60 [(.func (.func g) #[] #[])], oI z2 25 (dC b k), oI z1 25 (dC a j), oI bp 90 [(.int .i64 a.vars), (.int .i64 a.start), (.slice j.nb a.next.length j.nc), (.slice j.fb a.final.length j.fc), (.int .i64 b.vars), (.int .i64 b.start), (.slice k.nb b.next.length k.nc), (.slice k.fb b.final.length k.fc), (.slice qb ((bfsN (prodD f a b) (i + 1)).length) qc), (.map (some m))], rowI qb qc 86 2 (prs b.next.length (bfsN (prodD f a b) (i + 1))), mapI pairV (fun n : Nat => Value.int .i64 (n : Int)) m (pmap b.next.length (bfsN (prodD f a b) (i + 1))), rowI (some ⟨rb, 0, none⟩) L 3 1 (ints (rnR (prodD f a b) o))] ++ itms 3 qs)) (O := ([rowI (some ⟨z9, 0, none⟩) 1 52 1 [(.slice (some ⟨rb, 0, none⟩) L L)], oI z8 86 [.int .i64 ((o / b.next.length : Nat) : Int), .int .i64 ((o % b.next.length : Nat) : Int)], rowI z10 zc11 52 1 ((vals qs) ++ [(.slice (some ⟨rb, 0, none⟩) L L)]), rowI fbm fcm 4 1 (bools fs), oI z7 25 [(.int .i64 a.vars), (.int .i64 0), (.slice nbm n1 ncm), (.slice fbm n2 fcm)], oI z6 79 [(.pointer (some ⟨bp, 0, none⟩))], oI z5 29 [(.int .i64 0)], oI z4 25 [(.int .i64 0), (.int .i64 0), (.slice none 0 0), (.slice none 0 0)], oI z3 60 [(.func (.func g) #[] #[])], oI z2 25 (dC b k), oI z1 25 (dC a j), oI bp 90 [(.int .i64 a.vars), (.int .i64 a.start), (.slice j.nb a.next.length j.nc), (.slice j.fb a.final.length j.fc), (.int .i64 b.vars), (.int .i64 b.start), (.slice k.nb b.next.length k.nc), (.slice k.fb b.final.length k.fc), (.slice qb ((bfsN (prodD f a b) (i + 1)).length) qc), (.map (some m))], rowI qb qc 86 2 (prs b.next.length (bfsN (prodD f a b) (i + 1))), mapI pairV (fun n : Nat => Value.int .i64 (n : Int)) m (pmap b.next.length (bfsN (prodD f a b) (i + 1))), rowI (some ⟨rb, 0, none⟩) L 3 1 (ints (rnR (prodD f a b) o))] ++ (itms 3 qs))) (hf w (finN a (o / b.next.length)) (finN b (o % b.next.length))) (by exact Sub.rf)
    refine DO.loud rfl rfl (l_callG hk57 rfl rfl ?_)
    clear hk57
    rintro vr O' ⟨A1, rfl, rfl, rfl⟩
    refine ⟨by exact Sub.d (.k (.d (.d (.k (.k (.k (.k (.k (.k (.k (.k .z))))))))))), ?_⟩
    refine DO.loud rfl rfl (l_build1 (v := .bool (f (finN a (o / b.next.length)) (finN b (o % b.next.length)))) Tryd.underlying23 inf4 rfl rfl rfl (fun z12 => ⟨by exact Sub.d (.d (.k (.d (.d (.k (.k (.k (.k (.k (.k (.k (.k .z)))))))))))), ?_⟩))
    refine DO.loud rfl rfl (l_append 4 Tryd.underlying23 Tryd.underlying23 inf4 rfl rfl rfl rfl (by simp; omega) (by decide) (Src.row (j := 0) rfl (by simp)) (by simp [oneB]) (by omega) (by decide) (by decide) (fun z13 zc14 => ⟨by exact Sub.d (.d (.k (.d (.d (.k (.k (.k (.k (.k (.k (.k (.k .z)))))))))))), ?_⟩))
    refine DO.last rfl rfl (l_store_box (v := (.slice z10 (n1 + 1) zc11)) (vs := [(.slice z10 (n1 + 1) zc11)]) 5 inf22 rfl rfl rfl rfl rfl rfl (by simp [putL]) ?_)
    refine DO.last rfl rfl (LT.of_quiet rfl rfl (q_fieldAddr Tryd.underlying25 rfl inf23 rfl rfl) ?_)
    refine DO.last rfl rfl (l_store_box (v := (.slice z13 (n2 + 1) zc14)) (vs := [(.slice z13 (n2 + 1) zc14)]) 5 inf23 rfl rfl rfl rfl rfl rfl (by simp [putL]) ?_)
    refine DO.sub (O' := ([rowI z10 zc11 52 1 ((vals qs) ++ [(.slice (some ⟨rb, 0, none⟩) L L)]), rowI z13 zc14 4 1 ((bools fs) ++ [.bool (f (finN a (o / b.next.length)) (finN b (o % b.next.length)))]), oI z7 25 [(.int .i64 a.vars), (.int .i64 0), (.slice z10 (n1 + 1) zc11), (.slice z13 (n2 + 1) zc14)], oI z6 79 [(.pointer (some ⟨bp, 0, none⟩))], oI z5 29 [(.int .i64 0)], oI z4 25 [(.int .i64 0), (.int .i64 0), (.slice none 0 0), (.slice none 0 0)], oI z3 60 [(.func (.func g) #[] #[])], oI z2 25 (dC b k), oI z1 25 (dC a j), rowI (some ⟨rb, 0, none⟩) L 3 1 (ints (rnR (prodD f a b) o)), oI bp 90 [(.int .i64 a.vars), (.int .i64 a.start), (.slice j.nb a.next.length j.nc), (.slice j.fb a.final.length j.fc), (.int .i64 b.vars), (.int .i64 b.start), (.slice k.nb b.next.length k.nc), (.slice k.fb b.final.length k.fc), (.slice qb ((bfsN (prodD f a b) (i + 1)).length) qc), (.map (some m))], rowI qb qc 86 2 (prs b.next.length (bfsN (prodD f a b) (i + 1))), mapI pairV (fun n : Nat => Value.int .i64 (n : Int)) m (pmap b.next.length (bfsN (prodD f a b) (i + 1)))] ++ itms 3 qs)) (by exact Sub.d (.d (.d (.k (.k (.k (.k (.k (.k (.k (.k (.k (.pull [oI bp 90 [(.int .i64 a.vars), (.int .i64 a.start), (.slice j.nb a.next.length j.nc), (.slice j.fb a.final.length j.fc), (.int .i64 b.vars), (.int .i64 b.start), (.slice k.nb b.next.length k.nc), (.slice k.fb b.final.length k.fc), (.slice qb ((bfsN (prodD f a b) (i + 1)).length) qc), (.map (some m))], rowI qb qc 86 2 (prs b.next.length (bfsN (prodD f a b) (i + 1))), mapI pairV (fun n : Nat => Value.int .i64 (n : Int)) m (pmap b.next.length (bfsN (prodD f a b) (i + 1)))] _ (.k (.k (.k .rf)))))))))))))))) ?_
    refine DO.sub (O' := (([rowI z10 zc11 52 1 (vals (qs ++ [⟨some ⟨rb, 0, none⟩, L, rnR (prodD f a b) o⟩])), rowI z13 zc14 4 1 (bools (fs ++ [f (finN a (o / b.next.length)) (finN b (o % b.next.length))])), oI z7 25 [(.int .i64 a.vars), (.int .i64 0), (.slice z10 (n1 + 1) zc11), (.slice z13 (n2 + 1) zc14)], oI z6 79 [(.pointer (some ⟨bp, 0, none⟩))], oI z5 29 [(.int .i64 0)], oI z4 25 [(.int .i64 0), (.int .i64 0), (.slice none 0 0), (.slice none 0 0)], oI z3 60 [(.func (.func g) #[] #[])], oI z2 25 (dC b k), oI z1 25 (dC a j)] ++ itms 3 (qs ++ [⟨some ⟨rb, 0, none⟩, L, rnR (prodD f a b) o⟩])) ++ [oI bp 90 [(.int .i64 a.vars), (.int .i64 a.start), (.slice j.nb a.next.length j.nc), (.slice j.fb a.final.length j.fc), (.int .i64 b.vars), (.int .i64 b.start), (.slice k.nb b.next.length k.nc), (.slice k.fb b.final.length k.fc), (.slice qb ((bfsN (prodD f a b) (i + 1)).length) qc), (.map (some m))], rowI qb qc 86 2 (prs b.next.length (bfsN (prodD f a b) (i + 1))), mapI pairV (fun n : Nat => Value.int .i64 (n : Int)) m (pmap b.next.length (bfsN (prodD f a b) (i + 1)))])) (by rw [hvq, hbq]; exact Sub.fold [rowI z10 zc11 52 1 ((vals qs) ++ [(.slice (some ⟨rb, 0, none⟩) L L)]), rowI z13 zc14 4 1 ((bools fs) ++ [.bool (f (finN a (o / b.next.length)) (finN b (o % b.next.length)))]), oI z7 25 [(.int .i64 a.vars), (.int .i64 0), (.slice z10 (n1 + 1) zc11), (.slice z13 (n2 + 1) zc14)], oI z6 79 [(.pointer (some ⟨bp, 0, none⟩))], oI z5 29 [(.int .i64 0)], oI z4 25 [(.int .i64 0), (.int .i64 0), (.slice none 0 0), (.slice none 0 0)], oI z3 60 [(.func (.func g) #[] #[])], oI z2 25 (dC b k), oI z1 25 (dC a j)] (rowI (some ⟨rb, 0, none⟩) L 3 1 (ints (rnR (prodD f a b) o))) [oI bp 90 [(.int .i64 a.vars), (.int .i64 a.start), (.slice j.nb a.next.length j.nc), (.slice j.fb a.final.length j.fc), (.int .i64 b.vars), (.int .i64 b.start), (.slice k.nb b.next.length k.nc), (.slice k.fb b.final.length k.fc), (.slice qb ((bfsN (prodD f a b) (i + 1)).length) qc), (.map (some m))], rowI qb qc 86 2 (prs b.next.length (bfsN (prodD f a b) (i + 1))), mapI pairV (fun n : Nat => Value.int .i64 (n : Int)) m (pmap b.next.length (bfsN (prodD f a b) (i + 1)))] (itms 3 qs) _ (itms_snoc 3 qs ⟨some ⟨rb, 0, none⟩, L, rnR (prodD f a b) o⟩)) ?_
    refine DO.done ?_
    refine .inl ⟨rfl, _, rfl, z10, z13, zc11, zc14, n1 + 1, n2 + 1, qs ++ [⟨some ⟨rb, 0, none⟩, L, rnR (prodD f a b) o⟩], fs ++ [f (finN a (o / b.next.length)) (finN b (o % b.next.length))], rfl, by omega, by omega, by simp [hql], by simp [hfl], ?_, ?_, by omega⟩
    · rw [take_at hoa, List.map_append]
      show List.map Rec.xs (qs ++ [_]) = _
      rw [List.map_append, show List.map Rec.xs qs = _ from hqs]; rfl
    · rw [take_at hoa, List.map_append, hfs, ← pr_fin_at (f := f) ho]; rfl
  · refine ⟨none, none, 0, 0, 0, 0, [], [], rfl, rfl, rfl, rfl, rfl, by simp, by simp, by simp [bfsN]⟩
  rintro v O' (⟨N, qbF, qcF, O2, rfl, hN, nbm, fbm, ncm, fcm, n1, n2, qs, fs, rfl, hn1, hn2, hql, hfl, hqs, hfs, hle⟩ | rfl)
  · exact absurd hbig (by rw [pr_stop va vb hv hN]; omega)
  refine ⟨some .ret, _, rfl, ?_⟩
  refine Res.drop ?_
  refine Res.cell2a (i := 1) (j := 0) Tryd.results43 Tryd.underlying25 rfl inf25 Tryd.underlying29 rfl rfl rfl rfl rfl rfl ?_
  exact ⟨[], Sub.z, rfl, rfl⟩
end Go.Proofs.YtdaapdamcekkgaaDoor


namespace Go.Lx
open Go.RowKit
set_option linter.unusedVariables false
def opB (op : Int) : Bool → Bool → Bool := if op = 0 then andB else if op = 1 then orB else if op = 2 then xorB else minusB
theorem wrongD_self {d : DFA} : wrongD d d = checkD d := by
  unfold wrongD
  by_cases h : checkD d = 0 <;> simp [h]
theorem orderNot {d : DFA} (hv : Valid d) (hn : d.next.length * d.next.length ≤ 4096) : (order (prodD notB d d)).length ≤ d.next.length :=
  pr_order_fact hv hv rfl hn hv rfl (Det.refl d) (Det.refl d)
def sinkD (m : DFA) : DFA := ⟨m.vars, m.start, m.next ++ [List.replicate (2 ^ m.vars.toNat) (m.next.length : Int)], m.final ++ [false]⟩
theorem sinkD_both (m : DFA) : both m (stayD m.vars false) = sinkD m := by
  unfold both stayD sinkD
  simp
theorem sinkD_len (m : DFA) : (sinkD m).next.length = m.next.length + 1 := by simp [sinkD]
theorem sinkD_flen (m : DFA) : (sinkD m).final.length = m.final.length + 1 := by simp [sinkD]
theorem sinkD_valid {m : DFA} (hm : Valid m) (hn : m.next.length + 1 ≤ 4096) : Valid (sinkD m) := by
  rw [← sinkD_both]
  exact both_valid hm (stay_valid hm.v0 hm.v6 false) rfl hn
theorem sink_least {m : DFA} (hm : Valid m) (hn : m.next.length + 1 ≤ 4096) {r : Option (List Nat)} (h : TellA (sinkD m) m.start (m.next.length : Int) r) : LeastA m r := by
  have hv := sinkD_valid hm hn
  have e0 : eD (sinkD m) m.start (m.next.length : Int) = 0 := eD_zero.2 ⟨hv, hm.s0, by rw [sinkD_len]; have := hm.s1; omega, by omega, by rw [sinkD_len]; omega⟩
  unfold TellA at h
  rw [if_pos e0, Int.toNat_natCast, ← sinkD_both] at h
  exact tell_least hm hn h
theorem sink_eD {m : DFA} (hm : Valid m) (hn : m.next.length + 1 ≤ 4096) : eD (sinkD m) m.start (m.next.length : Int) = 0 :=
  eD_zero.2 ⟨sinkD_valid hm hn, hm.s0, by rw [sinkD_len]; have := hm.s1; omega, by omega, by rw [sinkD_len]; omega⟩
def InclA (a b : DFA) (r : Option (List Nat)) : Prop := if wrongD a b = 0 then LeastA (opD minusB a b) r else r = none
theorem InclA.unique {a b : DFA} (hn : wrongD a b = 0 → a.next.length * b.next.length ≤ 4096) {r s : Option (List Nat)} (h : InclA a b r) (h2 : InclA a b s) : r = s := by
  unfold InclA at h h2
  by_cases hw : wrongD a b = 0
  · rw [if_pos hw] at h h2
    obtain ⟨va, vb, hv⟩ := wrongD_zero.1 hw
    exact h.unique (opD_valid va vb hv (hn hw)) h2
  · rw [if_neg hw] at h h2; rw [h, h2]
theorem InclA.ok {a b : DFA} (hw : wrongD a b = 0) {r : Option (List Nat)} : InclA a b r ↔ LeastA (opD minusB a b) r := by unfold InclA; rw [if_pos hw]
def eqlA (a b : DFA) : Bool := decide (wrongD a b = 0) && (decide ((opD xorB a b).next.length = 1) && !finN (opD xorB a b) 0)
def allR : DFA → List DFA → DFA × Nat
  | d, [] => (d, 0)
  | d, x :: l => if wrongD d x = 0 then allR (opD andB d x) l else (noD, wrongD d x)
def AllOk : DFA → List DFA → Prop
  | _, [] => True
  | d, x :: l => wrongD d x = 0 → d.next.length * x.next.length ≤ 64 ∧ AllOk (opD andB d x) l
def allV (v : Int) (l : List DFA) : DFA × Nat := if 0 ≤ v ∧ v ≤ 6 then allR (stayD v true) l else (noD, 7)
theorem allR_at {d : DFA} {l : List DFA} {i : Nat} (h : i < l.length) : allR d (l.drop i) = if wrongD d l[i] = 0 then allR (opD andB d l[i]) (l.drop (i + 1)) else (noD, wrongD d l[i]) := by
  rw [List.drop_eq_getElem_cons h]; rfl
theorem allR_end {d : DFA} {l : List DFA} {i : Nat} (h : l.length ≤ i) : allR d (l.drop i) = (d, 0) := by
  rw [List.drop_eq_nil_of_le h]; rfl
theorem AllOk.at {d : DFA} {l : List DFA} {i : Nat} (h : i < l.length) (ha : AllOk d (l.drop i)) (hw : wrongD d l[i] = 0) : d.next.length * l[i].next.length ≤ 64 ∧ AllOk (opD andB d l[i]) (l.drop (i + 1)) := by
  rw [List.drop_eq_getElem_cons h] at ha
  exact ha hw
abbrev k00 : DK := ⟨none, 0, none, 0, []⟩
theorem T.nilD {P : Program} {r : Option Nat} {base : World} {n : Nat} {c : Code} {Q : Post} {ρ : Env} {O : List Item} (II Bo I : TypeId) (h : T P r base n c Q ρ (dI II Bo I noD k00 :: O)) : T P r base n c Q ρ O :=
  T.nilRow Bo 1 (T.nilRow II 1 (T.pack (φ := nums k00.qs = noD.next) (L := [rowI none 0 II 1 [], rowI none 0 Bo 1 []] ++ []) (M := O) rfl h))
theorem CallT.nilD {P : Program} {base : World} {f : FuncId} {args : List Value} {O : List Item} {R : Value → List Item → Prop} (II Bo I : TypeId) (h : CallT P base f args O R) : CallT P base f args O (fun v O' => ∃ O2, O' = dI II Bo I noD k00 :: O2 ∧ R v O2) :=
  (CallT.addNil II 1 (CallT.addNil Bo 1 h)).packR fun v O' hR => by
    obtain ⟨O2, rfl, O3, rfl, h3⟩ := hR
    exact ⟨nums k00.qs = noD.next, [rowI Option.none 0 II 1 [], rowI Option.none 0 Bo 1 []] ++ [], O3, rfl, rfl, O3, rfl, h3⟩
theorem eqlA_ok {a b : DFA} (h : wrongD a b = 0) : eqlA a b = (decide ((opD xorB a b).next.length = 1) && !finN (opD xorB a b) 0) := by unfold eqlA; rw [decide_eq_true h]; rfl
theorem eqlA_bad {a b : DFA} (h : wrongD a b ≠ 0) : eqlA a b = false := by unfold eqlA; rw [decide_eq_false h]; rfl
theorem Sub.foldN (A : List Item) (x : Item) (S S' : List Item) (h : S' = S ++ [x]) : Sub (A ++ S') ((A ++ [x]) ++ S) := by
  have := Sub.fold A x [] S S' h
  rwa [List.append_nil] at this
end Go.Lx


namespace Go.Proofs.YtdaapdamcekkgaaDoor
open Go.Lx Go.RowKit
set_option linter.unusedVariables false
set_option linter.unusedSimpArgs false
set_option maxRecDepth 20000 in
theorem combineA (w : World) (a b : DFA) (j k : DK) (ha : At w a j) (hb : At w b k) (haa : a.next.length < 9223372036854775807) (haar : ∀ r ∈ a.next, r.length < 9223372036854775807) (haaf : a.final.length < 9223372036854775807) (hbb : b.next.length < 9223372036854775807) (hbbr : ∀ r ∈ b.next, r.length < 9223372036854775807) (hbbf : b.final.length < 9223372036854775807) (f : Bool → Bool → Bool) (g : Nat) (hf : ∀ (base : World) (x y : Bool), CallV Tryd.prog base (.func (.func g) #[] #[]) [.bool x, .bool y] [] (fun v O' => v = .bool (f x y) ∧ O' = [])) (hN : wrongD a b = 0 → a.next.length * b.next.length ≤ 4096 ∧ (order (prodD f a b)).length < 100) :
    PureT Tryd.prog 43 [dV a j, dV b k, .func (.func g) #[] #[]] w fun v N => ∃ k' : DK, v = .tuple #[dV (opV f a b) k', .int .i64 (wrongD a b : Int)] ∧ N = [dI 52 4 3 (opV f a b) k'] := by
  by_cases he : wrongD a b = 0
  · obtain ⟨va, vb, hv⟩ := wrongD_zero.1 he
    rw [opV_ok he, he]
    exact combineOk w a b j k ha hb va vb hv f g hf (hN he).1 (hN he).2
  · rw [opV_bad he]
    refine CallT.dk (g := fun x => .tuple #[x, .int .i64 (wrongD a b : Int)]) ((CallT.addNil 52 1 (CallT.addNil 4 1 (combineBad w a b j k ha hb haa haar haaf hbb hbbr hbbf g he))).mono ?_)
    rintro v N ⟨O2, rfl, O3, rfl, rfl, rfl⟩
    exact ⟨none, 0, none, 0, [], rfl, rfl, rfl⟩
set_option maxHeartbeats 1000000 in
set_option maxRecDepth 20000 in
theorem notC0 (w : World) (a : DFA) (j : DK) (ha : At w a j) (haa : a.next.length < 9223372036854775807) (haar : ∀ r ∈ a.next, r.length < 9223372036854775807) (haaf : a.final.length < 9223372036854775807) (hN : wrongD a a = 0 → a.next.length * a.next.length ≤ 4096 ∧ (order (prodD notB a a)).length < 100) :
    PureT Tryd.prog 14 [dV a j] w fun v N => ∃ k' : DK, v = .tuple #[dV (opV notB a a) k', .int .i64 (wrongD a a : Int)] ∧ N = [dI 52 4 3 (opV notB a a) k'] := by
  refine CallT.enter Tryd.func14 rfl Tryd.ntmps14 rfl ?_
  refine T.seq (T.region ?_)
  refine TO.loud rfl (l_box (v := (dV a j)) (cs := (dC a j)) rfl rfl (fun bx1 => ?_))
  refine TO.loud rfl (l_alloc inf25 rfl (fun bx2 => ?_))
  refine TO.quiet (q_assign rfl) ?_
  refine TO.nil (T.seq (T.region ?_))
  refine TO.quiet (q_load_boxAgg 1 Tryd.underlying25 rfl inf25 rfl rfl rfl) (TO.quiet (q_load_boxAgg 1 Tryd.underlying25 rfl inf25 rfl rfl rfl) ?_)
  have hk6 := fun (w1 : World) (hI : Inv w [oI bx2 25 [(.int .i64 0), (.int .i64 0), (.slice none 0 0), (.slice none 0 0)], oI bx1 25 (dC a j)] w1) => combineA w1 a a j j (hI.atB ha) (hI.atB ha) haa haar haaf haa haar haaf notB 44 notFV hN
  refine TO.loud rfl (l_call ent43 (CallT.of_pure hk6) rfl ?_)
  clear hk6
  rintro vr O' ⟨N, rfl, k', rfl, rfl⟩
  refine TO.quiet (q_extract (vs := _) rfl rfl) (TO.quiet (q_extract (vs := _) rfl rfl) ?_)
  refine TO.loud rfl (l_store_box (v := (dV (opV notB a a) k')) (vs := (dC (opV notB a a) k')) 1 inf25 rfl rfl rfl rfl rfl rfl (by simp [putL]) ?_)
  refine TO.quiet (q_assign rfl) ?_
  refine TO.nil (T.ret (Res.drop ?_))
  refine Res.cell1b (.int .i64 (wrongD a a : Int)) (i := 1) Tryd.results14 Tryd.underlying25 rfl inf25 rfl rfl rfl rfl ?_
  exact ⟨[dI 52 4 3 (opV notB a a) k'], (by exact Sub.k .z), k', rfl, rfl⟩
theorem notC (w : World) (a : DFA) (j : DK) (ha : At w a j) (haa : a.next.length < 9223372036854775807) (haar : ∀ r ∈ a.next, r.length < 9223372036854775807) (haaf : a.final.length < 9223372036854775807) (hN : Valid a → a.next.length ≤ 64) :
    PureT Tryd.prog 14 [dV a j] w fun v N => ∃ k' : DK, v = .tuple #[dV (opV notB a a) k', .int .i64 (checkD a : Int)] ∧ N = [dI 52 4 3 (opV notB a a) k'] := by
  have h := notC0 w a j ha haa haar haaf (fun hw => by
    have hv := (wrongD_zero.1 hw).1
    have h64 := hN hv
    have h2 : a.next.length * a.next.length ≤ 64 * 64 := Nat.mul_le_mul h64 h64
    have := orderNot hv (by omega)
    exact ⟨by omega, by omega⟩)
  rwa [wrongD_self] at h
set_option maxHeartbeats 1000000 in
set_option maxRecDepth 20000 in
theorem andC (w : World) (a b : DFA) (j k : DK) (ha : At w a j) (hb : At w b k) (haa : a.next.length < 9223372036854775807) (haar : ∀ r ∈ a.next, r.length < 9223372036854775807) (haaf : a.final.length < 9223372036854775807) (hbb : b.next.length < 9223372036854775807) (hbbr : ∀ r ∈ b.next, r.length < 9223372036854775807) (hbbf : b.final.length < 9223372036854775807) (hN : wrongD a b = 0 → a.next.length * b.next.length ≤ 4096 ∧ (order (prodD andB a b)).length < 100) :
    PureT Tryd.prog 22 [dV a j, dV b k] w fun v N => ∃ k' : DK, v = .tuple #[dV (opV andB a b) k', .int .i64 (wrongD a b : Int)] ∧ N = [dI 52 4 3 (opV andB a b) k'] := by
  refine CallT.enter Tryd.func22 rfl Tryd.ntmps22 rfl ?_
  refine T.seq (T.region ?_)
  refine TO.loud rfl (l_box (v := (dV a j)) (cs := (dC a j)) rfl rfl (fun bx1 => ?_))
  refine TO.loud rfl (l_box (v := (dV b k)) (cs := (dC b k)) rfl rfl (fun bx2 => ?_))
  refine TO.loud rfl (l_alloc inf25 rfl (fun bx3 => ?_))
  refine TO.quiet (q_assign rfl) ?_
  refine TO.nil (T.seq (T.region ?_))
  refine TO.quiet (q_load_boxAgg 2 Tryd.underlying25 rfl inf25 rfl rfl rfl) (TO.quiet (q_load_boxAgg 1 Tryd.underlying25 rfl inf25 rfl rfl rfl) ?_)
  have hk8 := fun (w1 : World) (hI : Inv w [oI bx3 25 [(.int .i64 0), (.int .i64 0), (.slice none 0 0), (.slice none 0 0)], oI bx2 25 (dC b k), oI bx1 25 (dC a j)] w1) => combineA w1 a b j k (hI.atB ha) (hI.atB hb) haa haar haaf hbb hbbr hbbf andB 56 andFV hN
  refine TO.loud rfl (l_call ent43 (CallT.of_pure hk8) rfl ?_)
  clear hk8
  rintro vr O' ⟨N, rfl, k', rfl, rfl⟩
  refine TO.quiet (q_extract (vs := _) rfl rfl) (TO.quiet (q_extract (vs := _) rfl rfl) ?_)
  refine TO.loud rfl (l_store_box (v := (dV (opV andB a b) k')) (vs := (dC (opV andB a b) k')) 1 inf25 rfl rfl rfl rfl rfl rfl (by simp [putL]) ?_)
  refine TO.quiet (q_assign rfl) ?_
  refine TO.nil (T.ret (Res.drop ?_))
  refine Res.cell1b (.int .i64 (wrongD a b : Int)) (i := 1) Tryd.results22 Tryd.underlying25 rfl inf25 rfl rfl rfl rfl ?_
  exact ⟨[dI 52 4 3 (opV andB a b) k'], (by exact Sub.k .z), k', rfl, rfl⟩
set_option maxHeartbeats 1000000 in
set_option maxRecDepth 20000 in
theorem orC (w : World) (a b : DFA) (j k : DK) (ha : At w a j) (hb : At w b k) (haa : a.next.length < 9223372036854775807) (haar : ∀ r ∈ a.next, r.length < 9223372036854775807) (haaf : a.final.length < 9223372036854775807) (hbb : b.next.length < 9223372036854775807) (hbbr : ∀ r ∈ b.next, r.length < 9223372036854775807) (hbbf : b.final.length < 9223372036854775807) (hN : wrongD a b = 0 → a.next.length * b.next.length ≤ 4096 ∧ (order (prodD orB a b)).length < 100) :
    PureT Tryd.prog 23 [dV a j, dV b k] w fun v N => ∃ k' : DK, v = .tuple #[dV (opV orB a b) k', .int .i64 (wrongD a b : Int)] ∧ N = [dI 52 4 3 (opV orB a b) k'] := by
  refine CallT.enter Tryd.func23 rfl Tryd.ntmps23 rfl ?_
  refine T.seq (T.region ?_)
  refine TO.loud rfl (l_box (v := (dV a j)) (cs := (dC a j)) rfl rfl (fun bx1 => ?_))
  refine TO.loud rfl (l_box (v := (dV b k)) (cs := (dC b k)) rfl rfl (fun bx2 => ?_))
  refine TO.loud rfl (l_alloc inf25 rfl (fun bx3 => ?_))
  refine TO.quiet (q_assign rfl) ?_
  refine TO.nil (T.seq (T.region ?_))
  refine TO.quiet (q_load_boxAgg 2 Tryd.underlying25 rfl inf25 rfl rfl rfl) (TO.quiet (q_load_boxAgg 1 Tryd.underlying25 rfl inf25 rfl rfl rfl) ?_)
  have hk8 := fun (w1 : World) (hI : Inv w [oI bx3 25 [(.int .i64 0), (.int .i64 0), (.slice none 0 0), (.slice none 0 0)], oI bx2 25 (dC b k), oI bx1 25 (dC a j)] w1) => combineA w1 a b j k (hI.atB ha) (hI.atB hb) haa haar haaf hbb hbbr hbbf orB 57 orFV hN
  refine TO.loud rfl (l_call ent43 (CallT.of_pure hk8) rfl ?_)
  clear hk8
  rintro vr O' ⟨N, rfl, k', rfl, rfl⟩
  refine TO.quiet (q_extract (vs := _) rfl rfl) (TO.quiet (q_extract (vs := _) rfl rfl) ?_)
  refine TO.loud rfl (l_store_box (v := (dV (opV orB a b) k')) (vs := (dC (opV orB a b) k')) 1 inf25 rfl rfl rfl rfl rfl rfl (by simp [putL]) ?_)
  refine TO.quiet (q_assign rfl) ?_
  refine TO.nil (T.ret (Res.drop ?_))
  refine Res.cell1b (.int .i64 (wrongD a b : Int)) (i := 1) Tryd.results23 Tryd.underlying25 rfl inf25 rfl rfl rfl rfl ?_
  exact ⟨[dI 52 4 3 (opV orB a b) k'], (by exact Sub.k .z), k', rfl, rfl⟩
set_option maxHeartbeats 1000000 in
set_option maxRecDepth 20000 in
theorem xorC (w : World) (a b : DFA) (j k : DK) (ha : At w a j) (hb : At w b k) (haa : a.next.length < 9223372036854775807) (haar : ∀ r ∈ a.next, r.length < 9223372036854775807) (haaf : a.final.length < 9223372036854775807) (hbb : b.next.length < 9223372036854775807) (hbbr : ∀ r ∈ b.next, r.length < 9223372036854775807) (hbbf : b.final.length < 9223372036854775807) (hN : wrongD a b = 0 → a.next.length * b.next.length ≤ 4096 ∧ (order (prodD xorB a b)).length < 100) :
    PureT Tryd.prog 24 [dV a j, dV b k] w fun v N => ∃ k' : DK, v = .tuple #[dV (opV xorB a b) k', .int .i64 (wrongD a b : Int)] ∧ N = [dI 52 4 3 (opV xorB a b) k'] := by
  refine CallT.enter Tryd.func24 rfl Tryd.ntmps24 rfl ?_
  refine T.seq (T.region ?_)
  refine TO.loud rfl (l_box (v := (dV a j)) (cs := (dC a j)) rfl rfl (fun bx1 => ?_))
  refine TO.loud rfl (l_box (v := (dV b k)) (cs := (dC b k)) rfl rfl (fun bx2 => ?_))
  refine TO.loud rfl (l_alloc inf25 rfl (fun bx3 => ?_))
  refine TO.quiet (q_assign rfl) ?_
  refine TO.nil (T.seq (T.region ?_))
  refine TO.quiet (q_load_boxAgg 2 Tryd.underlying25 rfl inf25 rfl rfl rfl) (TO.quiet (q_load_boxAgg 1 Tryd.underlying25 rfl inf25 rfl rfl rfl) ?_)
  have hk8 := fun (w1 : World) (hI : Inv w [oI bx3 25 [(.int .i64 0), (.int .i64 0), (.slice none 0 0), (.slice none 0 0)], oI bx2 25 (dC b k), oI bx1 25 (dC a j)] w1) => combineA w1 a b j k (hI.atB ha) (hI.atB hb) haa haar haaf hbb hbbr hbbf xorB 58 xorFV hN
  refine TO.loud rfl (l_call ent43 (CallT.of_pure hk8) rfl ?_)
  clear hk8
  rintro vr O' ⟨N, rfl, k', rfl, rfl⟩
  refine TO.quiet (q_extract (vs := _) rfl rfl) (TO.quiet (q_extract (vs := _) rfl rfl) ?_)
  refine TO.loud rfl (l_store_box (v := (dV (opV xorB a b) k')) (vs := (dC (opV xorB a b) k')) 1 inf25 rfl rfl rfl rfl rfl rfl (by simp [putL]) ?_)
  refine TO.quiet (q_assign rfl) ?_
  refine TO.nil (T.ret (Res.drop ?_))
  refine Res.cell1b (.int .i64 (wrongD a b : Int)) (i := 1) Tryd.results24 Tryd.underlying25 rfl inf25 rfl rfl rfl rfl ?_
  exact ⟨[dI 52 4 3 (opV xorB a b) k'], (by exact Sub.k .z), k', rfl, rfl⟩
set_option maxHeartbeats 1000000 in
set_option maxRecDepth 20000 in
theorem minusC (w : World) (a b : DFA) (j k : DK) (ha : At w a j) (hb : At w b k) (haa : a.next.length < 9223372036854775807) (haar : ∀ r ∈ a.next, r.length < 9223372036854775807) (haaf : a.final.length < 9223372036854775807) (hbb : b.next.length < 9223372036854775807) (hbbr : ∀ r ∈ b.next, r.length < 9223372036854775807) (hbbf : b.final.length < 9223372036854775807) (hN : wrongD a b = 0 → a.next.length * b.next.length ≤ 4096 ∧ (order (prodD minusB a b)).length < 100) :
    PureT Tryd.prog 25 [dV a j, dV b k] w fun v N => ∃ k' : DK, v = .tuple #[dV (opV minusB a b) k', .int .i64 (wrongD a b : Int)] ∧ N = [dI 52 4 3 (opV minusB a b) k'] := by
  refine CallT.enter Tryd.func25 rfl Tryd.ntmps25 rfl ?_
  refine T.seq (T.region ?_)
  refine TO.loud rfl (l_box (v := (dV a j)) (cs := (dC a j)) rfl rfl (fun bx1 => ?_))
  refine TO.loud rfl (l_box (v := (dV b k)) (cs := (dC b k)) rfl rfl (fun bx2 => ?_))
  refine TO.loud rfl (l_alloc inf25 rfl (fun bx3 => ?_))
  refine TO.quiet (q_assign rfl) ?_
  refine TO.nil (T.seq (T.region ?_))
  refine TO.quiet (q_load_boxAgg 2 Tryd.underlying25 rfl inf25 rfl rfl rfl) (TO.quiet (q_load_boxAgg 1 Tryd.underlying25 rfl inf25 rfl rfl rfl) ?_)
  have hk8 := fun (w1 : World) (hI : Inv w [oI bx3 25 [(.int .i64 0), (.int .i64 0), (.slice none 0 0), (.slice none 0 0)], oI bx2 25 (dC b k), oI bx1 25 (dC a j)] w1) => combineA w1 a b j k (hI.atB ha) (hI.atB hb) haa haar haaf hbb hbbr hbbf minusB 59 minusFV hN
  refine TO.loud rfl (l_call ent43 (CallT.of_pure hk8) rfl ?_)
  clear hk8
  rintro vr O' ⟨N, rfl, k', rfl, rfl⟩
  refine TO.quiet (q_extract (vs := _) rfl rfl) (TO.quiet (q_extract (vs := _) rfl rfl) ?_)
  refine TO.loud rfl (l_store_box (v := (dV (opV minusB a b) k')) (vs := (dC (opV minusB a b) k')) 1 inf25 rfl rfl rfl rfl rfl rfl (by simp [putL]) ?_)
  refine TO.quiet (q_assign rfl) ?_
  refine TO.nil (T.ret (Res.drop ?_))
  refine Res.cell1b (.int .i64 (wrongD a b : Int)) (i := 1) Tryd.results25 Tryd.underlying25 rfl inf25 rfl rfl rfl rfl ?_
  exact ⟨[dI 52 4 3 (opV minusB a b) k'], (by exact Sub.k .z), k', rfl, rfl⟩
end Go.Proofs.YtdaapdamcekkgaaDoor


namespace Go.Proofs.YtdaapdamcekkgaaDoor
open Go.Lx Go.RowKit
set_option linter.unusedVariables false
set_option linter.unusedSimpArgs false
end Go.Proofs.YtdaapdamcekkgaaDoor


namespace Go.Proofs.YtdaapdamcekkgaaDoor
open Go.Lx Go.RowKit
set_option linter.unusedVariables false
set_option linter.unusedSimpArgs false
end Go.Proofs.YtdaapdamcekkgaaDoor


namespace Go.Proofs.YtdaapdamcekkgaaDoor
open Go.Lx Go.RowKit
set_option linter.unusedVariables false
set_option linter.unusedSimpArgs false
end Go.Proofs.YtdaapdamcekkgaaDoor


namespace Go.Proofs.YtdaapdamcekkgaaDoor
open Go.Lx Go.RowKit
set_option linter.unusedVariables false
set_option linter.unusedSimpArgs false
set_option maxHeartbeats 1000000 in
set_option maxRecDepth 20000 in
theorem eqlBad (w : World) (a b : DFA) (j k : DK) (ha : At w a j) (hb : At w b k) (haa : a.next.length < 9223372036854775807) (haar : ∀ r ∈ a.next, r.length < 9223372036854775807) (haaf : a.final.length < 9223372036854775807) (hbb : b.next.length < 9223372036854775807) (hbbr : ∀ r ∈ b.next, r.length < 9223372036854775807) (hbbf : b.final.length < 9223372036854775807) (he : wrongD a b ≠ 0) :
    PureT Tryd.prog 27 [dV a j, dV b k] w fun v N => v = .tuple #[.bool false, .int .i64 (wrongD a b : Int)] ∧ N = [] := by
  refine CallT.enter Tryd.func27 rfl Tryd.ntmps27 rfl ?_
  refine T.seq (T.region ?_)
  refine TO.loud rfl (l_box (v := (dV a j)) (cs := (dC a j)) rfl rfl (fun bx1 => ?_))
  refine TO.loud rfl (l_box (v := (dV b k)) (cs := (dC b k)) rfl rfl (fun bx2 => ?_))
  refine TO.quiet (q_assign rfl) (TO.quiet (q_assign rfl) ?_)
  refine TO.nil (T.seq (T.region ?_))
  refine TO.quiet (q_load_boxAgg 1 Tryd.underlying25 rfl inf25 rfl rfl rfl) (TO.quiet (q_load_boxAgg 0 Tryd.underlying25 rfl inf25 rfl rfl rfl) ?_)
  have hk11 := fun (w1 : World) (hI : Inv w [oI bx2 25 (dC b k), oI bx1 25 (dC a j)] w1) => xorC w1 a b j k (hI.atB ha) (hI.atB hb) haa haar haaf hbb hbbr hbbf (fun h => absurd h he)
  refine TO.loud rfl (l_call ent24 (CallT.of_pure hk11) rfl ?_)
  clear hk11
  rintro vr O' ⟨N, rfl, k', rfl, rfl⟩
  refine TO.quiet (q_move rfl) (TO.quiet (q_extract (vs := _) rfl rfl) (TO.quiet (q_extract (vs := _) rfl rfl) ?_))
  refine TO.loud rfl (l_alloc inf25 rfl (fun bx3 => ?_))
  refine TO.loud rfl (l_store_box (v := (dV (opV xorB a b) k')) (vs := (dC (opV xorB a b) k')) 0 inf25 rfl rfl rfl rfl rfl rfl (by simp [putL]) ?_)
  refine TO.quiet (q_assign rfl) ?_
  refine TO.nil (T.seq (T.seq (T.region ?_)))
  refine TO.quiet (q_move rfl) (TO.quiet (q_neq rfl rfl) ?_)
  refine TO.nil ?_
  refine T.cond1 (congrArg Value.bool (decide_eq_true (by omega))) ?_
  refine T.seq (T.region ?_)
  refine TO.quiet (q_move rfl) (TO.quiet (q_assign rfl) (TO.quiet (q_assign rfl) ?_))
  refine TO.nil (T.ret (Res.drop ?_))
  refine Res.two (.bool false) (.int .i64 (wrongD a b : Int)) Tryd.results27 rfl rfl ?_
  exact ⟨[], Sub.z, rfl, rfl⟩
set_option maxHeartbeats 1000000 in
set_option maxRecDepth 20000 in
theorem eqlOk (w : World) (a b : DFA) (j k : DK) (ha : At w a j) (hb : At w b k) (haa : a.next.length < 9223372036854775807) (haar : ∀ r ∈ a.next, r.length < 9223372036854775807) (haaf : a.final.length < 9223372036854775807) (hbb : b.next.length < 9223372036854775807) (hbbr : ∀ r ∈ b.next, r.length < 9223372036854775807) (hbbf : b.final.length < 9223372036854775807) (he : wrongD a b = 0) (hn : a.next.length * b.next.length ≤ 4096) (hN9 : (order (prodD xorB a b)).length < 100) :
    PureT Tryd.prog 27 [dV a j, dV b k] w fun v N => v = .tuple #[.bool (decide ((opD xorB a b).next.length = 1) && !finN (opD xorB a b) 0), .int .i64 0] ∧ N = [] := by
  refine CallT.enter Tryd.func27 rfl Tryd.ntmps27 rfl ?_
  obtain ⟨va, vb, hv⟩ := wrongD_zero.1 he
  have vM := opD_valid (f := xorB) va vb hv hn
  obtain ⟨M, hM⟩ : ∃ M, opD xorB a b = M := ⟨_, rfl⟩
  rw [hM] at vM
  have h0 := vM.n0
  have hf := vM.fin
  have hf0 : (bools M.final)[0]? = some (.bool (finN M 0)) := by
    rw [bools_get (by omega)]; unfold finN; rw [List.getD_eq_getElem?_getD, List.getElem?_eq_getElem (by omega)]; rfl
  refine T.seq (T.region ?_)
  refine TO.loud rfl (l_box (v := (dV a j)) (cs := (dC a j)) rfl rfl (fun bx1 => ?_))
  refine TO.loud rfl (l_box (v := (dV b k)) (cs := (dC b k)) rfl rfl (fun bx2 => ?_))
  refine TO.quiet (q_assign rfl) (TO.quiet (q_assign rfl) ?_)
  refine TO.nil (T.seq (T.region ?_))
  refine TO.quiet (q_load_boxAgg 1 Tryd.underlying25 rfl inf25 rfl rfl rfl) (TO.quiet (q_load_boxAgg 0 Tryd.underlying25 rfl inf25 rfl rfl rfl) ?_)
  have hk11 := fun (w1 : World) (hI : Inv w [oI bx2 25 (dC b k), oI bx1 25 (dC a j)] w1) => (show PureT _ _ _ _ _ from by have h9 := xorC w1 a b j k (hI.atB ha) (hI.atB hb) haa haar haaf hbb hbbr hbbf (fun _ => ⟨hn, hN9⟩); rw [opV_ok he, he, hM] at h9; exact h9)
  refine TO.loud rfl (l_call ent24 (CallT.of_pure hk11) rfl ?_)
  clear hk11
  rintro vr O' ⟨N, rfl, k', rfl, rfl⟩
  refine TO.quiet (q_move rfl) (TO.quiet (q_extract (vs := _) rfl rfl) (TO.quiet (q_extract (vs := _) rfl rfl) ?_))
  refine TO.loud rfl (l_alloc inf25 rfl (fun bx3 => ?_))
  refine TO.loud rfl (l_store_box (v := (dV M k')) (vs := (dC M k')) 0 inf25 rfl rfl rfl rfl rfl rfl (by simp [putL]) ?_)
  refine TO.quiet (q_assign rfl) ?_
  refine TO.nil (T.seq (T.seq (T.region ?_)))
  refine TO.quiet (q_move rfl) (TO.quiet (q_neq rfl rfl) ?_)
  refine TO.nil ?_
  refine T.cond0 rfl ?_
  refine T.skip (T.seq (T.region ?_))
  refine TO.quiet (q_fieldAddr Tryd.underlying25 rfl inf22 rfl rfl) (TO.quiet (q_load_box 0 Tryd.underlying22 rfl rfl rfl rfl) (TO.quiet (q_len Tryd.underlying22 rfl) (TO.quiet (q_eql rfl rfl) ?_)))
  by_cases hs21 : (M.next.length : Int) = 1
  · refine TO.quiet (QT.toB (q_move rfl) (decide_eq_true hs21)) ?_
    refine TO.guarded rfl rfl rfl (LT.of_quiet rfl rfl (q_fieldAddr Tryd.underlying25 rfl inf23 rfl rfl) ?_)
    refine TO.guarded rfl rfl rfl (LT.of_quiet rfl rfl (q_load_box 0 Tryd.underlying23 rfl rfl rfl rfl) ?_)
    refine TO.guarded rfl rfl rfl (LT.of_quiet rfl rfl (q_ix (i := 0) Tryd.underlying23 inf4 rfl rfl (fun w9 hI9 => (hI9.at (k := k') (List.mem_of_getElem? (i := 1) rfl)).final) (by omega) (by rw [List.length_map]; omega)) ?_)
    refine TO.guarded rfl rfl rfl (LT.of_quiet rfl rfl (q_ld Tryd.underlying4 rfl rfl (fun w9 hI9 => (hI9.at (k := k') (List.mem_of_getElem? (i := 1) rfl)).final) hf0) ?_)
    refine TO.guarded rfl rfl rfl (LT.of_quiet rfl rfl (q_not rfl) ?_)
    refine TO.quiet (q_pick1 rfl rfl) (TO.quiet (q_assign rfl) (TO.quiet (q_assign rfl) ?_))
    refine TO.nil (T.ret (Res.drop ?_))
    refine Res.two (.bool (!(finN M 0))) (.int .i64 0) Tryd.results27 rfl rfl ?_
    rw [hM]
    exact ⟨[], Sub.z, by first | rw [decide_eq_true (show M.next.length = 1 by omega)]; rfl | rw [decide_eq_false (show ¬ M.next.length = 1 by omega)]; rfl, rfl⟩
  refine TO.quiet (QT.toB (q_move rfl) (decide_eq_false hs21)) ?_
  refine TO.passed rfl rfl ?_
  refine TO.passed rfl rfl ?_
  refine TO.passed rfl rfl ?_
  refine TO.passed rfl rfl ?_
  refine TO.passed rfl rfl ?_
  refine TO.quiet (q_pick0 rfl rfl) (TO.quiet (q_assign rfl) (TO.quiet (q_assign rfl) ?_))
  refine TO.nil (T.ret (Res.drop ?_))
  refine Res.two (.bool false) (.int .i64 0) Tryd.results27 rfl rfl ?_
  rw [hM]
  exact ⟨[], Sub.z, by first | rw [decide_eq_true (show M.next.length = 1 by omega)]; rfl | rw [decide_eq_false (show ¬ M.next.length = 1 by omega)]; rfl, rfl⟩
theorem eqlC (w : World) (a b : DFA) (j k : DK) (ha : At w a j) (hb : At w b k) (haa : a.next.length < 9223372036854775807) (haar : ∀ r ∈ a.next, r.length < 9223372036854775807) (haaf : a.final.length < 9223372036854775807) (hbb : b.next.length < 9223372036854775807) (hbbr : ∀ r ∈ b.next, r.length < 9223372036854775807) (hbbf : b.final.length < 9223372036854775807) (hN : wrongD a b = 0 → a.next.length * b.next.length ≤ 4096 ∧ (order (prodD xorB a b)).length < 100) :
    PureT Tryd.prog 27 [dV a j, dV b k] w fun v N => v = .tuple #[.bool (eqlA a b), .int .i64 (wrongD a b : Int)] ∧ N = [] := by
  by_cases he : wrongD a b = 0
  · rw [eqlA_ok he, he]
    exact eqlOk w a b j k ha hb haa haar haaf hbb hbbr hbbf he (hN he).1 (hN he).2
  · rw [eqlA_bad he]
    exact eqlBad w a b j k ha hb haa haar haaf hbb hbbr hbbf he
set_option maxHeartbeats 1000000 in
set_option maxRecDepth 20000 in
theorem bAllC (w : World) (n : Int) (L : List DRec) (b : Option Addr) (c : Nat) (hS : Sl w b (dcells L)) (hD : ∀ r ∈ L, DfaAt w r.d r.nb r.vs r.fb) (hB : ∀ r ∈ L, r.d.next.length < 9223372036854775807 ∧ (∀ x ∈ r.d.next, x.length < 9223372036854775807) ∧ r.d.final.length < 9223372036854775807) (hL : L.length < 1000) (hA : 0 ≤ n → n ≤ 6 → AllOk (stayD n true) (L.map DRec.d)) :
    PureT Tryd.prog 32 [.int .i64 n, .slice b L.length c] w fun v N => ∃ k' : DK, v = .tuple #[dV (allV n (L.map DRec.d)).1 k', .int .i64 ((allV n (L.map DRec.d)).2 : Int)] ∧ N = [dI 52 4 3 (allV n (L.map DRec.d)).1 k'] := by
  refine CallT.enter Tryd.func32 rfl Tryd.ntmps32 rfl ?_
  refine T.seq (T.region ?_)
  refine TO.loud rfl (l_alloc inf25 rfl (fun z1 => ?_))
  refine TO.quiet (q_assign rfl) ?_
  refine TO.nil (T.seq (T.seq (T.region ?_)))
  refine TO.quiet (q_move rfl) ?_
  by_cases hn0 : n < 0
  · refine TO.quiet (QT.toB (q_lss rfl rfl) (decide_eq_true hn0)) ?_
    refine TO.quiet (q_move rfl) ?_
    refine TO.passed rfl rfl ?_
    refine TO.passed rfl rfl ?_
    refine TO.quiet (q_pick1 rfl rfl) ?_
    refine TO.nil ?_
    refine T.cond1 rfl ?_
    refine T.seq ?_
    refine T.nilD 52 4 3 ?_
    refine T.region ?_
    refine TO.quiet (q_build plan25 inf25 rfl) ?_
    refine TO.loud rfl (l_store_box (v := (.agg #[(.int .i64 0), (.int .i64 0), (.slice none 0 0), (.slice none 0 0)])) (vs := [(.int .i64 0), (.int .i64 0), (.slice none 0 0), (.slice none 0 0)]) 1 inf25 rfl rfl rfl rfl rfl rfl (by simp [putL]) ?_)
    refine TO.quiet (q_assign rfl) ?_
    refine TO.nil (T.ret (Res.drop ?_))
    refine Res.cell1b (.int .i64 7) (i := 1) Tryd.results32 Tryd.underlying25 rfl inf25 rfl rfl rfl rfl ?_
    have e9 : allV n (L.map DRec.d) = (noD, 7) := by unfold allV; rw [if_neg (by omega)]
    rw [e9]
    exact ⟨[dI 52 4 3 noD k00], (by exact Sub.k .z), k00, rfl, rfl⟩
  refine TO.quiet (QT.toB (q_lss rfl rfl) (decide_eq_false hn0)) (TO.quiet (q_move rfl) ?_)
  refine TO.guarded rfl rfl rfl (LT.of_quiet rfl rfl (q_move rfl) ?_)
  by_cases hn6 : (6 : Int) < n
  · refine TO.guarded rfl rfl rfl (LT.of_quiet rfl rfl (QT.toB (q_gtr rfl rfl) (decide_eq_true hn6)) ?_)
    refine TO.quiet (q_pick0 rfl rfl) ?_
    refine TO.nil ?_
    refine T.cond1 rfl ?_
    refine T.seq ?_
    refine T.nilD 52 4 3 ?_
    refine T.region ?_
    refine TO.quiet (q_build plan25 inf25 rfl) ?_
    refine TO.loud rfl (l_store_box (v := (.agg #[(.int .i64 0), (.int .i64 0), (.slice none 0 0), (.slice none 0 0)])) (vs := [(.int .i64 0), (.int .i64 0), (.slice none 0 0), (.slice none 0 0)]) 1 inf25 rfl rfl rfl rfl rfl rfl (by simp [putL]) ?_)
    refine TO.quiet (q_assign rfl) ?_
    refine TO.nil (T.ret (Res.drop ?_))
    refine Res.cell1b (.int .i64 7) (i := 1) Tryd.results32 Tryd.underlying25 rfl inf25 rfl rfl rfl rfl ?_
    have e9 : allV n (L.map DRec.d) = (noD, 7) := by unfold allV; rw [if_neg (by omega)]
    rw [e9]
    exact ⟨[dI 52 4 3 noD k00], (by exact Sub.k .z), k00, rfl, rfl⟩
  refine TO.guarded rfl rfl rfl (LT.of_quiet rfl rfl (QT.toB (q_gtr rfl rfl) (decide_eq_false hn6)) ?_)
  refine TO.quiet (q_pick0 rfl rfl) ?_
  refine TO.nil ?_
  refine T.cond0 rfl ?_
  refine T.skip (T.seq ?_)
  have h0 : 0 ≤ n := by omega
  have h6 : n ≤ 6 := by omega
  obtain ⟨W, hW⟩ : ∃ W, 2 ^ n.toNat = W := ⟨_, rfl⟩
  have hW6 : W ≤ 64 := by rw [← hW]; exact Nat.le_trans (Nat.pow_le_pow_right (by omega) (show n.toNat ≤ 6 by omega)) (by decide)
  refine T.region ?_
  refine TO.quiet (q_move rfl) (TO.quiet (q_move rfl) (TO.quiet (QT.cast (q_shl1 (v := n.toNat) rfl (by show Value.int _ n = _; rw [Int.toNat_of_nonneg h0]) (by omega)) (v' := .int .i64 ((W : Nat) : Int)) (by rw [hW])) ?_))
  refine TO.loud rfl (l_makeSlice (m := W) Tryd.underlying52 inf3 rfl rfl (by omega) (by omega) (fun z2 => ?_))
  refine TO.loud rfl (l_build1 (v := (.slice (some ⟨z2, 0, none⟩) W W)) Tryd.underlying22 inf52 rfl rfl rfl (fun z3 => ?_))
  refine TO.loud rfl (l_build1 (v := .bool true) Tryd.underlying23 inf4 rfl rfl rfl (fun z4 => ?_))
  refine TO.quiet (q_build (cs := [.int .i64 n, (.int .i64 0), (.slice (some ⟨z3, 0, none⟩) 1 1), (.slice (some ⟨z4, 0, none⟩) 1 1)]) plan25 inf25 (by kernel_rfl)) ?_
  refine TO.loud rfl (l_alloc inf25 rfl (fun z5 => ?_))
  refine TO.loud rfl (l_store_box (v := (.agg #[.int .i64 n, (.int .i64 0), (.slice (some ⟨z3, 0, none⟩) 1 1), (.slice (some ⟨z4, 0, none⟩) 1 1)])) (vs := [.int .i64 n, (.int .i64 0), (.slice (some ⟨z3, 0, none⟩) 1 1), (.slice (some ⟨z4, 0, none⟩) 1 1)]) 0 inf25 rfl rfl rfl rfl rfl rfl (by simp [putL]) ?_)
  refine TO.nil (T.seq (T.seq (T.region ?_)))
  refine TO.quiet (q_move rfl) (TO.quiet (q_len Tryd.underlying48 rfl) (TO.quiet (q_move rfl) ?_))
  refine TO.nil (T.block ?_)
  refine T.sub (O' := [rowI (some ⟨z3, 0, none⟩) 1 52 1 [(.slice (some ⟨z2, 0, none⟩) W W)], rowI (some ⟨z4, 0, none⟩) 1 4 1 [.bool true], rowI (some ⟨z2, 0, none⟩) W 3 1 (List.replicate W (.int .i64 0)), oI z5 25 [.int .i64 n, (.int .i64 0), (.slice (some ⟨z3, 0, none⟩) 1 1), (.slice (some ⟨z4, 0, none⟩) 1 1)], oI z1 25 [(.int .i64 0), (.int .i64 0), (.slice none 0 0), (.slice none 0 0)]]) (by exact Sub.pull [oI z5 25 [.int .i64 n, (.int .i64 0), (.slice (some ⟨z3, 0, none⟩) 1 1), (.slice (some ⟨z4, 0, none⟩) 1 1)], rowI (some ⟨z4, 0, none⟩) 1 4 1 [.bool true]] _ (.pull [oI z5 25 [.int .i64 n, (.int .i64 0), (.slice (some ⟨z3, 0, none⟩) 1 1), (.slice (some ⟨z4, 0, none⟩) 1 1)]] _ (.pull [oI z5 25 [.int .i64 n, (.int .i64 0), (.slice (some ⟨z3, 0, none⟩) 1 1), (.slice (some ⟨z4, 0, none⟩) 1 1)]] _ (.k (.k .z))))) ?_
  refine T.sub (O' := (([rowI (some ⟨z3, 0, none⟩) 1 52 1 (vals [⟨some ⟨z2, 0, none⟩, W, List.replicate W 0⟩]), rowI (some ⟨z4, 0, none⟩) 1 4 1 (bools [true])] ++ itms 3 [⟨some ⟨z2, 0, none⟩, W, List.replicate W 0⟩]) ++ [oI z5 25 [.int .i64 n, (.int .i64 0), (.slice (some ⟨z3, 0, none⟩) 1 1), (.slice (some ⟨z4, 0, none⟩) 1 1)], oI z1 25 [(.int .i64 0), (.int .i64 0), (.slice none 0 0), (.slice none 0 0)]])) (by rw [show vals [(⟨some ⟨z2, 0, none⟩, W, List.replicate W 0⟩ : Rec)] = [(.slice (some ⟨z2, 0, none⟩) W W)] by simp [Rec.val], show itms 3 [(⟨some ⟨z2, 0, none⟩, W, List.replicate W 0⟩ : Rec)] = [rowI (some ⟨z2, 0, none⟩) W 3 1 (ints (List.replicate W 0))] from rfl, show ints (List.replicate W 0) = List.replicate W (.int .i64 0) by simp]; exact Sub.rf) ?_
  refine T.pack (φ := nums [(⟨some ⟨z2, 0, none⟩, W, List.replicate W 0⟩ : Rec)] = (stayD n true).next) (by rw [← hW]; rfl) ?_
  obtain ⟨d0, hd0⟩ : ∃ d, d = stayD n true := ⟨_, rfl⟩
  obtain ⟨k0, hk0⟩ : ∃ k : DK, k = ⟨some ⟨z3, 0, none⟩, 1, some ⟨z4, 0, none⟩, 1, [⟨some ⟨z2, 0, none⟩, W, List.replicate W 0⟩]⟩ := ⟨_, rfl⟩
  have v0 : Valid d0 := hd0 ▸ stay_valid h0 h6 true
  have hA0 : AllOk d0 (L.map DRec.d) := hd0 ▸ hA h0 h6
  refine T.sub (O' := [dI 52 4 3 d0 k0, oI z5 25 (dC d0 k0), oI z1 25 [(.int .i64 0), (.int .i64 0), (.slice none 0 0), (.slice none 0 0)]]) (by subst hk0; subst hd0; exact Sub.rf) ?_
  refine T.loopS (fun (i : Nat) ρ O => ∃ (d : DFA) (kd : DK), O = [dI 52 4 3 d kd, oI z5 25 (dC d kd), oI z1 25 [(.int .i64 0), (.int .i64 0), (.slice none 0 0), (.slice none 0 0)]] ∧ i ≤ L.length ∧ Valid d ∧ allR (stayD n true) (L.map DRec.d) = allR d ((L.map DRec.d).drop i) ∧ AllOk d ((L.map DRec.d).drop i) ∧ Heads [(0, .int .i64 n), (1, (.slice b L.length c)), (4, (.pointer (some ⟨z1, 0, none⟩))), (6, (.pointer (some ⟨z5, 0, none⟩))), (25, (.slice b L.length c)), (26, .int .i64 (L.length : Int)), (27, .int .i64 ((i : Nat) : Int))] ρ) (fun i => L.length - i) 0 ?_ ?_
  · exact ⟨d0, k0, rfl, Nat.zero_le _, v0, by rw [hd0]; rfl, hA0, ⟨rfl, rfl, rfl, rfl, rfl, rfl, rfl, trivial⟩⟩
  rintro i ρ O ⟨d, kd, rfl, hi, vd, hall, hok, hH⟩
  obtain ⟨ρ0, rfl⟩ := hH.elim
  clear hH
  refine T.seq (T.region ?_)
  refine TO.quiet (q_lss rfl rfl) ?_
  refine TO.nil (T.seq ?_)
  refine T.condP rfl (fun hc => ?_) (fun hc => ?_)
  · have hlt28 : i < L.length := by omega
    have hmem := List.getElem_mem hlt28
    obtain ⟨kx, hAx, hkx⟩ := (hD _ hmem).dk L[i].nc L[i].fc
    obtain ⟨hB1, hB2, hB3⟩ := hB _ hmem
    refine T.skip (T.seq (T.block (T.seq (T.region ?_))))
    refine TO.quiet (q_ixK (i := i) Tryd.underlying48 inf25 rfl rfl (Sl.o hS) hlt28 (by rw [dcells_len]; omega)) (TO.quiet (q_ldK (vs := [(.int .i64 L[i].d.vars), (.int .i64 L[i].d.start), (.slice kx.nb L[i].d.next.length kx.nc), (.slice kx.fb L[i].d.final.length kx.fc)]) Tryd.underlying25 rfl inf25 rfl rfl (Nat.succ_pos _) (Sl.o hS) (fun j hj => by rw [dcells_get hlt28 hj, show L[i].cells = dC L[i].d kx from hkx]; exact List.getElem?_eq_getElem hj)) ?_)
    refine TO.loud rfl (l_alloc inf25 rfl (fun z6 => ?_))
    refine TO.loud rfl (l_store_box (v := (.agg #[(.int .i64 L[i].d.vars), (.int .i64 L[i].d.start), (.slice kx.nb L[i].d.next.length kx.nc), (.slice kx.fb L[i].d.final.length kx.fc)])) (vs := [(.int .i64 L[i].d.vars), (.int .i64 L[i].d.start), (.slice kx.nb L[i].d.next.length kx.nc), (.slice kx.fb L[i].d.final.length kx.fc)]) 0 inf25 rfl rfl rfl rfl rfl rfl (by simp [putL]) ?_)
    refine TO.nil (T.seq (T.region ?_))
    refine TO.quiet (q_load_boxAgg 2 Tryd.underlying25 rfl inf25 rfl rfl rfl) (TO.quiet (q_load_boxAgg 0 Tryd.underlying25 rfl inf25 rfl rfl rfl) ?_)
    have hk34 := fun (w1 : World) (hI : Inv w [oI z6 25 [(.int .i64 L[i].d.vars), (.int .i64 L[i].d.start), (.slice kx.nb L[i].d.next.length kx.nc), (.slice kx.fb L[i].d.final.length kx.fc)], dI 52 4 3 d kd, oI z5 25 (dC d kd), oI z1 25 [(.int .i64 0), (.int .i64 0), (.slice none 0 0), (.slice none 0 0)]] w1) => andC w1 d L[i].d kd kx (hI.at (k := kd) (List.mem_of_getElem? (i := 1) rfl)) (hI.atB hAx) (by have := vd.n4; omega) vd.bound (by have := vd.fin; have := vd.n4; omega) hB1 hB2 hB3 (fun hw => by
        obtain ⟨_, vx, hvx⟩ := wrongD_zero.1 hw
        have h64 := (AllOk.at (by rw [List.length_map]; exact hlt28) hok (by rw [List.getElem_map]; exact hw)).1
        rw [List.getElem_map] at h64
        exact ⟨by omega, Nat.lt_of_le_of_lt (pr_order_le vd vx hvx) (by omega)⟩)
    refine TO.loud rfl (l_call ent22 (CallT.of_pure hk34) rfl ?_)
    clear hk34
    rintro vr O' ⟨N, rfl, k', rfl, rfl⟩
    refine TO.quiet (q_move rfl) (TO.quiet (q_extract (vs := _) rfl rfl) (TO.quiet (q_extract (vs := _) rfl rfl) ?_))
    refine TO.loud rfl (l_alloc inf25 rfl (fun z7 => ?_))
    refine TO.loud rfl (l_store_box (v := (.agg #[(.int .i64 (opV andB d L[i].d).vars), (.int .i64 (opV andB d L[i].d).start), (.slice k'.nb ((opV andB d L[i].d).next.length) k'.nc), (.slice k'.fb ((opV andB d L[i].d).final.length) k'.fc)])) (vs := [(.int .i64 (opV andB d L[i].d).vars), (.int .i64 (opV andB d L[i].d).start), (.slice k'.nb ((opV andB d L[i].d).next.length) k'.nc), (.slice k'.fb ((opV andB d L[i].d).final.length) k'.fc)]) 0 inf25 rfl rfl rfl rfl rfl rfl (by simp [putL]) ?_)
    refine TO.quiet (q_assign rfl) ?_
    refine TO.nil (T.seq (T.seq (T.region ?_)))
    refine TO.quiet (q_move rfl) (TO.quiet (q_neq rfl rfl) ?_)
    refine TO.nil ?_
    refine T.condP rfl (fun hc => ?_) (fun hc => ?_)
    · have hlt38 : wrongD d L[i].d ≠ 0 := by omega
      refine T.seq ?_
      refine T.nilD 52 4 3 ?_
      refine T.region ?_
      refine TO.quiet (q_build plan25 inf25 rfl) (TO.quiet (q_move rfl) ?_)
      refine TO.loud rfl (l_store_box (v := (.agg #[(.int .i64 0), (.int .i64 0), (.slice none 0 0), (.slice none 0 0)])) (vs := [(.int .i64 0), (.int .i64 0), (.slice none 0 0), (.slice none 0 0)]) 6 inf25 rfl rfl rfl rfl rfl rfl (by simp [putL]) ?_)
      refine TO.quiet (q_assign rfl) ?_
      refine TO.nil (T.ret (Res.drop ?_))
      refine Res.cell1b (.int .i64 (wrongD d L[i].d : Int)) (i := 6) Tryd.results32 Tryd.underlying25 rfl inf25 rfl rfl rfl rfl ?_
      have e9 : allV n (L.map DRec.d) = (noD, wrongD d L[i].d) := by
        unfold allV
        rw [if_pos ⟨h0, h6⟩, hall, allR_at (by rw [List.length_map]; exact hlt28), List.getElem_map, if_neg (by omega)]
      rw [e9]
      exact ⟨[dI 52 4 3 noD k00], (by exact Sub.k .z), k00, rfl, rfl⟩
    have hge38 : ¬ wrongD d L[i].d ≠ 0 := by omega
    refine T.skip ?_
    have hw0 : wrongD d L[i].d = 0 := by omega
    obtain ⟨_, vx, hvx⟩ := wrongD_zero.1 hw0
    obtain ⟨h64, hok2⟩ := AllOk.at (by rw [List.length_map]; exact hlt28) hok (by rw [List.getElem_map]; exact hw0)
    rw [List.getElem_map] at h64 hok2
    refine T.sub (O' := [oI z7 25 [(.int .i64 (opD andB d L[i].d).vars), (.int .i64 (opD andB d L[i].d).start), (.slice k'.nb ((opD andB d L[i].d).next.length) k'.nc), (.slice k'.fb ((opD andB d L[i].d).final.length) k'.fc)], dI 52 4 3 (opD andB d L[i].d) k', oI z6 25 [(.int .i64 L[i].d.vars), (.int .i64 L[i].d.start), (.slice kx.nb L[i].d.next.length kx.nc), (.slice kx.fb L[i].d.final.length kx.fc)], dI 52 4 3 d kd, oI z5 25 (dC d kd), oI z1 25 [(.int .i64 0), (.int .i64 0), (.slice none 0 0), (.slice none 0 0)]]) (by rw [← opV_ok (f := andB) hw0]; exact Sub.rf) ?_
    refine T.region ?_
    refine TO.quiet (q_load_boxAgg 0 Tryd.underlying25 rfl inf25 rfl rfl rfl) ?_
    refine TO.loud rfl (l_store_box (v := (.agg #[(.int .i64 (opD andB d L[i].d).vars), (.int .i64 (opD andB d L[i].d).start), (.slice k'.nb ((opD andB d L[i].d).next.length) k'.nc), (.slice k'.fb ((opD andB d L[i].d).final.length) k'.fc)])) (vs := [(.int .i64 (opD andB d L[i].d).vars), (.int .i64 (opD andB d L[i].d).start), (.slice k'.nb ((opD andB d L[i].d).next.length) k'.nc), (.slice k'.fb ((opD andB d L[i].d).final.length) k'.fc)]) 4 inf25 rfl rfl rfl rfl rfl rfl (by simp [putL]) ?_)
    refine TO.nil (T.region ?_)
    refine TO.quiet (q_addN (a := i) (b := 1) rfl rfl (by omega)) (TO.quiet (q_move rfl) ?_)
    refine TO.nil ?_
    refine ⟨i + 1, by omega, [dI 52 4 3 (opD andB d L[i].d) k', oI z5 25 [(.int .i64 (opD andB d L[i].d).vars), (.int .i64 (opD andB d L[i].d).start), (.slice k'.nb ((opD andB d L[i].d).next.length) k'.nc), (.slice k'.fb ((opD andB d L[i].d).final.length) k'.fc)], oI z1 25 [(.int .i64 0), (.int .i64 0), (.slice none 0 0), (.slice none 0 0)]], (by exact Sub.d (.k (.d (.d (.k (.k .z)))))), opD andB d L[i].d, k', rfl, by omega, opD_valid vd vx hvx (by omega), ?_, hok2, ⟨rfl, rfl, rfl, rfl, rfl, rfl, rfl, trivial⟩⟩
    rw [hall, allR_at (by rw [List.length_map]; exact hlt28), List.getElem_map, if_pos hw0]
  have hge28 : ¬ i < L.length := by omega
  refine T.exit ?_
  refine T.seq (T.region ?_)
  refine TO.quiet (q_load_boxAgg 1 Tryd.underlying25 rfl inf25 rfl rfl rfl) ?_
  refine TO.loud rfl (l_store_box (v := (dV d kd)) (vs := (dC d kd)) 2 inf25 rfl rfl rfl rfl rfl rfl (by simp [putL]) ?_)
  refine TO.quiet (q_assign rfl) ?_
  refine TO.nil (T.ret (Res.drop ?_))
  refine Res.cell1b (.int .i64 0) (i := 2) Tryd.results32 Tryd.underlying25 rfl inf25 rfl rfl rfl rfl ?_
  have e9 : allV n (L.map DRec.d) = (d, 0) := by
    unfold allV
    rw [if_pos ⟨h0, h6⟩, hall, allR_end (by rw [List.length_map]; omega)]
  rw [e9]
  exact ⟨[dI 52 4 3 d kd], (by exact Sub.k .z), kd, rfl, rfl⟩
end Go.Proofs.YtdaapdamcekkgaaDoor


namespace Go.Proofs.YtdaapdamcekkgaaDoor
open Go.Lx Go.RowKit
set_option linter.unusedVariables false
set_option linter.unusedSimpArgs false
set_option maxHeartbeats 1000000 in
set_option maxRecDepth 20000 in
theorem inclBad (w : World) (a b : DFA) (j k : DK) (ha : At w a j) (hb : At w b k) (haa : a.next.length < 9223372036854775807) (haar : ∀ r ∈ a.next, r.length < 9223372036854775807) (haaf : a.final.length < 9223372036854775807) (hbb : b.next.length < 9223372036854775807) (hbbr : ∀ r ∈ b.next, r.length < 9223372036854775807) (hbbf : b.final.length < 9223372036854775807) (he : wrongD a b ≠ 0) :
    PureT Tryd.prog 26 [dV a j, dV b k] w fun v N => v = .tuple #[.slice none 0 0, .bool false, .int .i64 (wrongD a b : Int)] ∧ N = [] := by
  refine CallT.enter Tryd.func26 rfl Tryd.ntmps26 rfl ?_
  refine T.seq (T.region ?_)
  refine TO.loud rfl (l_box (v := (dV a j)) (cs := (dC a j)) rfl rfl (fun bx1 => ?_))
  refine TO.loud rfl (l_box (v := (dV b k)) (cs := (dC b k)) rfl rfl (fun bx2 => ?_))
  refine TO.quiet (q_assign rfl) (TO.quiet (q_assign rfl) (TO.quiet (q_assign rfl) ?_))
  refine TO.nil (T.seq (T.region ?_))
  refine TO.quiet (q_load_boxAgg 1 Tryd.underlying25 rfl inf25 rfl rfl rfl) (TO.quiet (q_load_boxAgg 0 Tryd.underlying25 rfl inf25 rfl rfl rfl) ?_)
  have hk15 := fun (w1 : World) (hI : Inv w [oI bx2 25 (dC b k), oI bx1 25 (dC a j)] w1) => minusC w1 a b j k (hI.atB ha) (hI.atB hb) haa haar haaf hbb hbbr hbbf (fun h => absurd h he)
  refine TO.loud rfl (l_call ent25 (CallT.of_pure hk15) rfl ?_)
  clear hk15
  rintro vr O' ⟨N, rfl, k', rfl, rfl⟩
  refine TO.quiet (q_move rfl) (TO.quiet (q_extract (vs := _) rfl rfl) (TO.quiet (q_extract (vs := _) rfl rfl) ?_))
  refine TO.loud rfl (l_alloc inf25 rfl (fun bx3 => ?_))
  refine TO.loud rfl (l_store_box (v := (dV (opV minusB a b) k')) (vs := (dC (opV minusB a b) k')) 0 inf25 rfl rfl rfl rfl rfl rfl (by simp [putL]) ?_)
  refine TO.quiet (q_assign rfl) ?_
  refine TO.nil (T.seq (T.seq (T.region ?_)))
  refine TO.quiet (q_move rfl) (TO.quiet (q_neq rfl rfl) ?_)
  refine TO.nil ?_
  refine T.cond1 (congrArg Value.bool (decide_eq_true (by omega))) ?_
  refine T.seq (T.region ?_)
  refine TO.quiet (q_move rfl) (TO.quiet (q_assign rfl) (TO.quiet (q_assign rfl) (TO.quiet (q_assign rfl) ?_)))
  refine TO.nil (T.ret (Res.drop ?_))
  refine Res.three (.slice none 0 0) (.bool false) (.int .i64 (wrongD a b : Int)) Tryd.results26 rfl rfl rfl ?_
  exact ⟨[], Sub.z, rfl, rfl⟩
set_option maxHeartbeats 1000000 in
set_option maxRecDepth 20000 in
theorem inclOk (w : World) (a b : DFA) (j k : DK) (ha : At w a j) (hb : At w b k) (haa : a.next.length < 9223372036854775807) (haar : ∀ r ∈ a.next, r.length < 9223372036854775807) (haaf : a.final.length < 9223372036854775807) (hbb : b.next.length < 9223372036854775807) (hbbr : ∀ r ∈ b.next, r.length < 9223372036854775807) (hbbf : b.final.length < 9223372036854775807) (he : wrongD a b = 0) (hn : a.next.length * b.next.length ≤ 64) :
    PureT Tryd.prog 26 [dV a j, dV b k] w fun v N => ∃ res wb wc, InclA a b res ∧ v = .tuple #[.slice wb (res.getD []).length wc, .bool (!res.isSome), .int .i64 0] ∧ N = [rowI wb wc 5 1 (byts (res.getD []))] := by
  refine CallT.enter Tryd.func26 rfl Tryd.ntmps26 rfl ?_
  obtain ⟨va, vb, hv⟩ := wrongD_zero.1 he
  have vM := opD_valid (f := minusB) va vb hv (by omega)
  have hml := opD_len (f := minusB) va vb hv (by omega)
  obtain ⟨M, hM⟩ : ∃ M, opD minusB a b = M := ⟨_, rfl⟩
  rw [hM] at vM hml
  obtain ⟨L, hL⟩ : ∃ L, 2 ^ M.vars.toNat = L := ⟨_, rfl⟩
  have hw : L ≤ 64 := by rw [← hL]; exact vM.width
  obtain ⟨m, hm⟩ : ∃ m, M.next.length = m := ⟨_, rfl⟩
  have vS := sinkD_valid vM (by omega)
  have hmf := vM.fin
  refine T.seq (T.region ?_)
  refine TO.loud rfl (l_box (v := (dV a j)) (cs := (dC a j)) rfl rfl (fun z1 => ?_))
  refine TO.loud rfl (l_box (v := (dV b k)) (cs := (dC b k)) rfl rfl (fun z2 => ?_))
  refine TO.quiet (q_assign rfl) (TO.quiet (q_assign rfl) (TO.quiet (q_assign rfl) ?_))
  refine TO.nil (T.seq (T.region ?_))
  refine TO.quiet (q_load_boxAgg 1 Tryd.underlying25 rfl inf25 rfl rfl rfl) (TO.quiet (q_load_boxAgg 0 Tryd.underlying25 rfl inf25 rfl rfl rfl) ?_)
  have hk15 := fun (w1 : World) (hI : Inv w [oI z2 25 (dC b k), oI z1 25 (dC a j)] w1) => (show PureT _ _ _ _ _ from by have h9 := minusC w1 a b j k (hI.atB ha) (hI.atB hb) haa haar haaf hbb hbbr hbbf (fun _ => ⟨by omega, Nat.lt_of_le_of_lt (pr_order_le va vb hv) (by omega)⟩); rw [opV_ok he, he, hM] at h9; exact h9)
  refine TO.loud rfl (l_call ent25 (CallT.of_pure hk15) rfl ?_)
  clear hk15
  rintro vr O' ⟨N, rfl, k', rfl, rfl⟩
  refine TO.quiet (q_move rfl) (TO.quiet (q_extract (vs := _) rfl rfl) (TO.quiet (q_extract (vs := _) rfl rfl) ?_))
  refine TO.loud rfl (l_alloc inf25 rfl (fun z3 => ?_))
  refine TO.loud rfl (l_store_box (v := (dV M k')) (vs := (dC M k')) 0 inf25 rfl rfl rfl rfl rfl rfl (by simp [putL]) ?_)
  refine TO.quiet (q_assign rfl) ?_
  refine TO.nil (T.seq (T.seq (T.region ?_)))
  refine TO.quiet (q_move rfl) (TO.quiet (q_neq rfl rfl) ?_)
  refine TO.nil ?_
  refine T.cond0 rfl ?_
  refine T.skip (T.seq ?_)
  refine T.sub (O' := [dI 52 4 3 M k', oI z3 25 (dC M k'), oI z2 25 (dC b k), oI z1 25 (dC a j)]) (by exact Sub.pull [oI z3 25 (dC M k')] _ (.k (.k (.k .z)))) ?_
  refine T.unpack (fun hqs => ?_)
  refine T.sub (O' := ([rowI k'.nb k'.nc 52 1 (vals k'.qs), rowI k'.fb k'.fc 4 1 (bools M.final), oI z3 25 (dC M k'), oI z2 25 (dC b k), oI z1 25 (dC a j)] ++ itms 3 k'.qs)) (by exact Sub.swap3 [rowI k'.nb k'.nc 52 1 (vals k'.qs), rowI k'.fb k'.fc 4 1 (bools M.final)] [oI z3 25 (dC M k'), oI z2 25 (dC b k), oI z1 25 (dC a j)] (itms 3 k'.qs)) ?_
  refine T.region ?_
  refine TO.quiet (q_fieldAddr Tryd.underlying25 rfl inf22 rfl rfl) (TO.quiet (q_load_box 2 Tryd.underlying22 rfl rfl rfl rfl) (TO.quiet (QT.cast (q_len Tryd.underlying22 rfl) (v' := .int .i64 ((m : Nat) : Int)) (by rw [hm])) (TO.quiet (q_assign rfl) ?_)))
  refine TO.nil (T.seq (T.region ?_))
  refine TO.quiet (q_fieldAddr Tryd.underlying25 rfl inf3 rfl rfl) (TO.quiet (q_load_box 2 Tryd.underlying3 rfl rfl rfl rfl) (TO.quiet (QT.cast (q_shl1 (v := M.vars.toNat) rfl (by show Value.int _ M.vars = _; rw [Int.toNat_of_nonneg vM.v0]) (by have := vM.v6; omega)) (v' := .int .i64 ((L : Nat) : Int)) (by rw [hL])) ?_))
  refine TO.loud rfl (l_makeSlice (m := L) Tryd.underlying52 inf3 rfl rfl (by omega) (by omega) (fun z4 => ?_))
  refine TO.quiet (q_assign rfl) ?_
  refine TO.nil (T.seq (T.seq (T.region ?_)))
  refine TO.quiet (q_move rfl) (TO.quiet (q_len Tryd.underlying52 rfl) (TO.quiet (q_move rfl) ?_))
  refine TO.nil (T.block ?_)
  refine T.loop (fun (x : Nat) ρ O => ∃ (ys : List Int), O = ([rowI (some ⟨z4, 0, none⟩) L 3 1 (ints ys), rowI k'.nb k'.nc 52 1 (vals k'.qs), rowI k'.fb k'.fc 4 1 (bools M.final), oI z3 25 (dC M k'), oI z2 25 (dC b k), oI z1 25 (dC a j)] ++ (itms 3 k'.qs)) ∧ x ≤ L ∧ ys.length = L ∧ (∀ y, y < x → ys[y]? = some (m : Int)) ∧ Heads [(0, (dV a j)), (1, (dV b k)), (2, (.pointer (some ⟨z1, 0, none⟩))), (3, (.pointer (some ⟨z2, 0, none⟩))), (4, (.slice none 0 0)), (5, .bool false), (6, .int .i64 0), (7, (.pointer (some ⟨z3, 0, none⟩))), (8, .int .i64 ((m : Nat) : Int)), (9, (.slice (some ⟨z4, 0, none⟩) L L)), (29, .int .i64 (L : Int)), (30, .int .i64 ((x : Nat) : Int))] ρ) (fun x => L - x) 0 ?_ ?_
  · refine ⟨List.replicate L 0, ?_, Nat.zero_le _, by simp, fun y hy9 => absurd hy9 (by omega), ⟨rfl, rfl, rfl, rfl, rfl, rfl, rfl, rfl, rfl, rfl, rfl, rfl, trivial⟩⟩
    rw [show List.replicate L (Value.int .i64 0) = ints (List.replicate L 0) by simp]; rfl
  rintro x ρ O ⟨ys, rfl, hx, hyl, hys, hH⟩
  obtain ⟨ρ0, rfl⟩ := hH.elim
  clear hH
  refine T.seq (T.region ?_)
  refine TO.quiet (q_lss rfl rfl) ?_
  refine TO.nil (T.seq ?_)
  refine T.condP rfl (fun hc => ?_) (fun hc => ?_)
  · have hlt31 : x < L := by omega
    refine T.skip (T.seq (T.block (T.seq (T.region ?_))))
    refine TO.quiet (q_move rfl) (TO.quiet (q_assign rfl) ?_)
    refine TO.nil (T.region ?_)
    refine TO.quiet (q_move rfl) (TO.quiet (q_move rfl) (TO.quiet (q_move rfl) (TO.quiet (q_ix (i := x) Tryd.underlying52 inf3 rfl rfl (rowO (List.mem_of_getElem? (i := 0) rfl))) ?_)))
    refine TO.loud rfl (l_st (j := x) (v := .int .i64 ((m : Nat) : Int)) (vs := [(.int .i64 ((m : Nat) : Int))]) (cs := ints ys) 0 inf3 rfl rfl rfl rfl rfl (by simp) rfl (by first | (simp; omega) | (simp_all; omega)) ?_)
    refine TO.sub (O' := ([rowI (some ⟨z4, 0, none⟩) L 3 1 (ints (ys.set x (m : Int))), rowI k'.nb k'.nc 52 1 (vals k'.qs), rowI k'.fb k'.fc 4 1 (bools M.final), oI z3 25 (dC M k'), oI z2 25 (dC b k), oI z1 25 (dC a j)] ++ (itms 3 k'.qs))) (by rw [show putL (ints ys) x [(.int .i64 ((m : Nat) : Int))] = ints (ys.set x (m : Int)) from by simp [putL]]; exact Sub.of (List.Sublist.refl _)) ?_
    refine TO.nil (T.region ?_)
    refine TO.quiet (q_addN (a := x) (b := 1) rfl rfl (by omega)) (TO.quiet (q_move rfl) ?_)
    refine TO.nil ?_
    refine ⟨x + 1, by omega, ys.set x (m : Int), rfl, by omega, by simp [hyl], fun y hy9 => ?_, ⟨rfl, rfl, rfl, rfl, rfl, rfl, rfl, rfl, rfl, rfl, rfl, rfl, trivial⟩⟩
    by_cases e : y = x
    · subst e; rw [List.getElem?_set_self (by omega)]
    · rw [List.getElem?_set_ne (fun h => e h.symm)]; exact hys y (by omega)
  have hge31 : ¬ x < L := by omega
  refine T.exit ?_
  refine T.cut (fun ρ O => ∃ (nb2 : Option Addr) (nc2 : Nat) (fb2 : Option Addr) (fc2 : Nat), O = ([rowI (some ⟨z4, 0, none⟩) L 3 1 (ints ys), rowI nb2 nc2 52 1 ((vals k'.qs) ++ [(.slice (some ⟨z4, 0, none⟩) L L)]), rowI fb2 fc2 4 1 ((bools M.final) ++ [.bool false]), oI z3 25 [(.int .i64 M.vars), (.int .i64 M.start), (.slice nb2 (M.next.length + 1) nc2), (.slice fb2 (M.final.length + 1) fc2)], oI z2 25 (dC b k), oI z1 25 (dC a j)] ++ (itms 3 k'.qs)) ∧ Heads [(0, (dV a j)), (1, (dV b k)), (2, (.pointer (some ⟨z1, 0, none⟩))), (3, (.pointer (some ⟨z2, 0, none⟩))), (4, (.slice none 0 0)), (5, .bool false), (6, .int .i64 0), (7, (.pointer (some ⟨z3, 0, none⟩))), (8, .int .i64 ((m : Nat) : Int)), (9, (.slice (some ⟨z4, 0, none⟩) L L))] ρ) ?_ ?_
  · refine T.treeT [oI z3 25 (dC M k'), oI z2 25 (dC b k), oI z1 25 (dC a j)] [10, 12] 13 mixed rfl (by exact Sub.d (.d (.d (.k (.k (.k .z)))))) (fun _ _ _ h => h) ?_
    refine RO.quietTT 0 rfl (by kernel_rfl) (q_fieldAddr Tryd.underlying25 rfl inf22 rfl rfl) ?_
    refine RO.quietTT 1 rfl (by kernel_rfl) (q_load_box 0 Tryd.underlying22 rfl rfl rfl rfl) ?_
    refine RO.quietTT 2 rfl (by kernel_rfl) (q_move rfl) ?_
    refine RO.quietTT 5 rfl (by kernel_rfl) (q_fieldAddr Tryd.underlying25 rfl inf23 rfl rfl) ?_
    refine RO.quietTT 6 rfl (by kernel_rfl) (q_load_box 0 Tryd.underlying23 rfl rfl rfl rfl) ?_
    refine RO.forkT [3, 7] (by kernel_rfl) rfl ⟨⟨_, rfl, rfl, l_build1 (v := (.slice (some ⟨z4, 0, none⟩) L L)) Tryd.underlying22 inf52 rfl rfl rfl (fun tr => ⟨.inr (by exact Sub.d (.d (.d (.d (.k (.k (.k .z))))))), ?_⟩)⟩, ⟨_, rfl, rfl, l_build1 (v := .bool false) Tryd.underlying23 inf4 rfl rfl rfl (fun tf => ⟨.inr (by exact Sub.d (.d (.d (.d (.k (.k (.k .z))))))), ?_⟩)⟩, trivial⟩ (by kernel_rfl)
    · refine RO.forkT [4, 7] (by kernel_rfl) rfl ⟨⟨_, rfl, rfl, l_append 2 Tryd.underlying22 Tryd.underlying22 inf52 rfl rfl rfl rfl (by rw [List.length_map]; have := congrArg List.length hqs; simpa using this) (by decide) (Src.row (j := 0) rfl (by simp)) (by simp [oneB]) (by omega) (by decide) (by decide) (fun nb2 nc2 => ⟨.inr (by exact Sub.d (.d (.d (.d (.k (.k (.k .z))))))), ?_⟩)⟩, ⟨_, rfl, rfl, l_build1 (v := .bool false) Tryd.underlying23 inf4 rfl rfl rfl (fun tf => ⟨.inr (by exact Sub.d (.d (.d (.d (.d (.k (.k (.k .z)))))))), ?_⟩)⟩, trivial⟩ (by kernel_rfl)
      · refine RO.quietTT 9 rfl (by kernel_rfl) (q_fieldAddr Tryd.underlying25 rfl inf22 rfl rfl) ?_
        refine RO.forkT [7] (by kernel_rfl) rfl ⟨⟨_, rfl, rfl, l_build1 (v := .bool false) Tryd.underlying23 inf4 rfl rfl rfl (fun tf => ⟨.inr (by exact Sub.d (.d (.d (.d (.d (.k (.k (.k .z)))))))), ?_⟩)⟩, trivial⟩ (by kernel_rfl)
        refine RO.forkT [8] (by kernel_rfl) rfl ⟨⟨_, rfl, rfl, l_append 4 Tryd.underlying23 Tryd.underlying23 inf4 rfl rfl rfl rfl (by simp) (by decide) (Src.row (j := 0) rfl (by simp)) (by simp [oneB]) (by omega) (by decide) (by decide) (fun fb2 fc2 => ⟨.inr (by exact Sub.d (.d (.d (.d (.d (.k (.k (.k .z)))))))), ?_⟩)⟩, trivial⟩ (by kernel_rfl)
        refine RO.forkT [10] (by kernel_rfl) rfl ⟨⟨_, rfl, rfl, l_store_box (v := (.slice nb2 (M.next.length + 1) nc2)) (vs := [(.slice nb2 (M.next.length + 1) nc2)]) 5 inf22 rfl rfl rfl rfl rfl rfl (by simp [putL]) ⟨.inl (by decide), ?_⟩⟩, trivial⟩ (by kernel_rfl)
        refine RO.quietE 11 rfl (by kernel_rfl) (q_fieldAddr Tryd.underlying25 rfl inf23 rfl rfl) ?_
        refine RO.forkT [12] (by kernel_rfl) rfl ⟨⟨_, rfl, rfl, l_store_box (v := (.slice fb2 (M.final.length + 1) fc2)) (vs := [(.slice fb2 (M.final.length + 1) fc2)]) 5 inf23 rfl rfl rfl rfl rfl rfl (by simp [putL]) ⟨.inl (by decide), ?_⟩⟩, trivial⟩ (by kernel_rfl)
        exact RO.fin (by kernel_rfl) ⟨nb2, nc2, fb2, fc2, rfl, ⟨rfl, rfl, rfl, rfl, rfl, rfl, rfl, rfl, rfl, rfl, trivial⟩⟩ (by exact Sub.d (.d (.k (.k (.k (.k (.k (.k .rf))))))))
      refine RO.forkT [4] (by kernel_rfl) rfl ⟨⟨_, rfl, rfl, l_append 3 Tryd.underlying22 Tryd.underlying22 inf52 rfl rfl rfl rfl (by rw [List.length_map]; have := congrArg List.length hqs; simpa using this) (by decide) (Src.row (j := 1) rfl (by simp)) (by simp [oneB]) (by omega) (by decide) (by decide) (fun nb2 nc2 => ⟨.inr (by exact Sub.d (.d (.d (.d (.d (.k (.k (.k .z)))))))), ?_⟩)⟩, trivial⟩ (by kernel_rfl)
      refine RO.quietTT 9 rfl (by kernel_rfl) (q_fieldAddr Tryd.underlying25 rfl inf22 rfl rfl) ?_
      refine RO.forkT [8] (by kernel_rfl) rfl ⟨⟨_, rfl, rfl, l_append 4 Tryd.underlying23 Tryd.underlying23 inf4 rfl rfl rfl rfl (by simp) (by decide) (Src.row (j := 0) rfl (by simp)) (by simp [oneB]) (by omega) (by decide) (by decide) (fun fb2 fc2 => ⟨.inr (by exact Sub.d (.d (.d (.d (.d (.k (.k (.k .z)))))))), ?_⟩)⟩, trivial⟩ (by kernel_rfl)
      refine RO.forkT [10] (by kernel_rfl) rfl ⟨⟨_, rfl, rfl, l_store_box (v := (.slice nb2 (M.next.length + 1) nc2)) (vs := [(.slice nb2 (M.next.length + 1) nc2)]) 5 inf22 rfl rfl rfl rfl rfl rfl (by simp [putL]) ⟨.inl (by decide), ?_⟩⟩, trivial⟩ (by kernel_rfl)
      refine RO.quietE 11 rfl (by kernel_rfl) (q_fieldAddr Tryd.underlying25 rfl inf23 rfl rfl) ?_
      refine RO.forkT [12] (by kernel_rfl) rfl ⟨⟨_, rfl, rfl, l_store_box (v := (.slice fb2 (M.final.length + 1) fc2)) (vs := [(.slice fb2 (M.final.length + 1) fc2)]) 5 inf23 rfl rfl rfl rfl rfl rfl (by simp [putL]) ⟨.inl (by decide), ?_⟩⟩, trivial⟩ (by kernel_rfl)
      exact RO.fin (by kernel_rfl) ⟨nb2, nc2, fb2, fc2, rfl, ⟨rfl, rfl, rfl, rfl, rfl, rfl, rfl, rfl, rfl, rfl, trivial⟩⟩ (by exact Sub.d (.d (.k (.k (.k (.k (.k (.k .rf))))))))
    refine RO.forkT [3] (by kernel_rfl) rfl ⟨⟨_, rfl, rfl, l_build1 (v := (.slice (some ⟨z4, 0, none⟩) L L)) Tryd.underlying22 inf52 rfl rfl rfl (fun tr => ⟨.inr (by exact Sub.d (.d (.d (.d (.d (.k (.k (.k .z)))))))), ?_⟩)⟩, trivial⟩ (by kernel_rfl)
    refine RO.forkT [4] (by kernel_rfl) rfl ⟨⟨_, rfl, rfl, l_append 3 Tryd.underlying22 Tryd.underlying22 inf52 rfl rfl rfl rfl (by rw [List.length_map]; have := congrArg List.length hqs; simpa using this) (by decide) (Src.row (j := 0) rfl (by simp)) (by simp [oneB]) (by omega) (by decide) (by decide) (fun nb2 nc2 => ⟨.inr (by exact Sub.d (.d (.d (.d (.d (.k (.k (.k .z)))))))), ?_⟩)⟩, trivial⟩ (by kernel_rfl)
    refine RO.quietTT 9 rfl (by kernel_rfl) (q_fieldAddr Tryd.underlying25 rfl inf22 rfl rfl) ?_
    refine RO.forkT [8] (by kernel_rfl) rfl ⟨⟨_, rfl, rfl, l_append 4 Tryd.underlying23 Tryd.underlying23 inf4 rfl rfl rfl rfl (by simp) (by decide) (Src.row (j := 1) rfl (by simp)) (by simp [oneB]) (by omega) (by decide) (by decide) (fun fb2 fc2 => ⟨.inr (by exact Sub.d (.d (.d (.d (.d (.k (.k (.k .z)))))))), ?_⟩)⟩, trivial⟩ (by kernel_rfl)
    refine RO.forkT [10] (by kernel_rfl) rfl ⟨⟨_, rfl, rfl, l_store_box (v := (.slice nb2 (M.next.length + 1) nc2)) (vs := [(.slice nb2 (M.next.length + 1) nc2)]) 5 inf22 rfl rfl rfl rfl rfl rfl (by simp [putL]) ⟨.inl (by decide), ?_⟩⟩, trivial⟩ (by kernel_rfl)
    refine RO.quietE 11 rfl (by kernel_rfl) (q_fieldAddr Tryd.underlying25 rfl inf23 rfl rfl) ?_
    refine RO.forkT [12] (by kernel_rfl) rfl ⟨⟨_, rfl, rfl, l_store_box (v := (.slice fb2 (M.final.length + 1) fc2)) (vs := [(.slice fb2 (M.final.length + 1) fc2)]) 5 inf23 rfl rfl rfl rfl rfl rfl (by simp [putL]) ⟨.inl (by decide), ?_⟩⟩, trivial⟩ (by kernel_rfl)
    exact RO.fin (by kernel_rfl) ⟨nb2, nc2, fb2, fc2, rfl, ⟨rfl, rfl, rfl, rfl, rfl, rfl, rfl, rfl, rfl, rfl, trivial⟩⟩ (by exact Sub.d (.d (.k (.k (.k (.k (.k (.k .rf))))))))
  rintro ρ O ⟨nb2, nc2, fb2, fc2, rfl, hH⟩
  obtain ⟨ρ0, rfl⟩ := hH.elim
  clear hH
  refine T.seq (T.seq ?_)
  have hye : ys = List.replicate (2 ^ M.vars.toNat) (m : Int) := by
    apply List.ext_getElem?
    intro y
    by_cases hy9 : y < L
    · rw [hys y (by omega), List.getElem?_replicate, if_pos (by rw [hL]; exact hy9)]
    · rw [List.getElem?_eq_none (by omega), List.getElem?_eq_none (by rw [List.length_replicate, hL]; omega)]
  have hvq : vals (k'.qs ++ [⟨some ⟨z4, 0, none⟩, L, ys⟩]) = vals k'.qs ++ [(.slice (some ⟨z4, 0, none⟩) L L)] := by simp [Rec.val, hyl]
  have hbq : bools (sinkD M).final = bools M.final ++ [.bool false] := by simp [sinkD]
  have hnq : nums (k'.qs ++ [⟨some ⟨z4, 0, none⟩, L, ys⟩]) = (sinkD M).next := by
    show List.map Rec.xs (k'.qs ++ [_]) = _
    rw [List.map_append, show List.map Rec.xs k'.qs = _ from hqs]; show _ ++ [ys] = _; rw [hye, ← hm]; rfl
  obtain ⟨z9, hz9⟩ : ∃ z : DK, z = ⟨nb2, nc2, fb2, fc2, k'.qs ++ [⟨some ⟨z4, 0, none⟩, L, ys⟩]⟩ := ⟨_, rfl⟩
  obtain ⟨W, hW⟩ : ∃ W, W = sinkD M := ⟨_, rfl⟩
  have vW : Valid W := hW ▸ vS
  have hWl : W.next.length = M.next.length + 1 := by rw [hW, sinkD_len]
  refine T.sub (O' := ([rowI nb2 nc2 52 1 ((vals k'.qs) ++ [(.slice (some ⟨z4, 0, none⟩) L L)]), rowI fb2 fc2 4 1 ((bools M.final) ++ [.bool false]), rowI (some ⟨z4, 0, none⟩) L 3 1 (ints ys), oI z3 25 [(.int .i64 M.vars), (.int .i64 M.start), (.slice nb2 (M.next.length + 1) nc2), (.slice fb2 (M.final.length + 1) fc2)], oI z2 25 (dC b k), oI z1 25 (dC a j)] ++ itms 3 k'.qs)) (by exact Sub.pull [rowI (some ⟨z4, 0, none⟩) L 3 1 (ints ys)] _ (.pull [rowI (some ⟨z4, 0, none⟩) L 3 1 (ints ys)] _ (.k (.k (.k (.k .rf)))))) ?_
  refine T.sub (O' := (([rowI nb2 nc2 52 1 (vals (k'.qs ++ [⟨some ⟨z4, 0, none⟩, L, ys⟩])), rowI fb2 fc2 4 1 (bools (sinkD M).final)] ++ itms 3 (k'.qs ++ [⟨some ⟨z4, 0, none⟩, L, ys⟩])) ++ [oI z3 25 [(.int .i64 (sinkD M).vars), (.int .i64 (sinkD M).start), (.slice nb2 ((sinkD M).next.length) nc2), (.slice fb2 ((sinkD M).final.length) fc2)], oI z2 25 (dC b k), oI z1 25 (dC a j)])) (by rw [hvq, hbq, show (sinkD M).next.length = M.next.length + 1 from sinkD_len _, show (sinkD M).final.length = M.final.length + 1 from sinkD_flen _]; exact Sub.fold [rowI nb2 nc2 52 1 ((vals k'.qs) ++ [(.slice (some ⟨z4, 0, none⟩) L L)]), rowI fb2 fc2 4 1 ((bools M.final) ++ [.bool false])] (rowI (some ⟨z4, 0, none⟩) L 3 1 (ints ys)) [oI z3 25 [(.int .i64 M.vars), (.int .i64 M.start), (.slice nb2 (M.next.length + 1) nc2), (.slice fb2 (M.final.length + 1) fc2)], oI z2 25 (dC b k), oI z1 25 (dC a j)] (itms 3 k'.qs) _ (itms_snoc 3 k'.qs ⟨some ⟨z4, 0, none⟩, L, ys⟩)) ?_
  refine T.pack (φ := nums (k'.qs ++ [⟨some ⟨z4, 0, none⟩, L, ys⟩]) = (sinkD M).next) hnq ?_
  refine T.sub (O' := [dI 52 4 3 W z9, oI z3 25 (dC W z9), oI z2 25 (dC b k), oI z1 25 (dC a j)]) (by subst hz9; subst hW; exact Sub.rf) ?_
  refine T.region ?_
  refine TO.quiet (q_fieldAddr Tryd.underlying25 rfl inf22 rfl rfl) (TO.quiet (q_load_box 1 Tryd.underlying22 rfl rfl rfl rfl) (TO.quiet (q_len Tryd.underlying22 rfl) (TO.quiet (QT.toB (q_gtr rfl rfl) (decide_eq_false (by omega))) ?_)))
  refine TO.nil ?_
  refine T.cond0 rfl ?_
  refine T.skip (T.seq (T.region ?_))
  refine TO.quiet (q_load_boxAgg 1 Tryd.underlying25 rfl inf25 rfl rfl rfl) (TO.quiet (q_fieldAddr Tryd.underlying25 rfl inf3 rfl rfl) (TO.quiet (q_load_box 1 Tryd.underlying3 rfl rfl rfl rfl) (TO.quiet (q_move rfl) ?_)))
  have hk60 := fun (w1 : World) (hI : Inv w [dI 52 4 3 W z9, oI z3 25 (dC W z9), oI z2 25 (dC b k), oI z1 25 (dC a j)] w1) => distA w1 W z9.nb z9.fb z9.nc z9.fc (vals z9.qs) (hI.at (k := z9) (List.mem_of_getElem? (i := 0) rfl)) (by have := vW.n4; omega) vW.bound (by have := vW.fin; have := vW.n4; omega) (fun _ => by omega) W.start (m : Int)
  refine TO.loud rfl (l_call ent61 (CallT.of_pure hk60) rfl ?_)
  clear hk60
  rintro vr O' ⟨N, rfl, res, wb, wc, hT, rfl, rfl⟩
  refine TO.quiet (q_move rfl) (TO.quiet (q_extract (vs := _) rfl rfl) (TO.quiet (q_extract (vs := _) rfl rfl) (TO.quiet (q_extract (vs := _) rfl rfl) ?_)))
  refine TO.quiet (q_assign rfl) (TO.quiet (q_assign rfl) (TO.quiet (q_assign rfl) ?_))
  refine TO.nil (T.seq (T.region ?_))
  refine TO.quiet (q_move rfl) (TO.quiet (q_move rfl) (TO.quiet (q_not rfl) (TO.quiet (q_move rfl) ?_)))
  refine TO.quiet (q_assign rfl) (TO.quiet (q_assign rfl) (TO.quiet (q_assign rfl) ?_))
  refine TO.nil (T.ret (Res.drop ?_))
  refine Res.three (.slice wb ((res.getD []).length) wc) (.bool (!res.isSome)) (.int .i64 (eD W W.start (m : Int) : Int)) Tryd.results26 rfl rfl rfl ?_
  subst hW
  have e0 : eD (sinkD M) (sinkD M).start (m : Int) = 0 := by rw [← hm]; exact sink_eD vM (by omega)
  exact ⟨[rowI wb wc 5 1 (byts (res.getD []))], (by exact Sub.k .z), res, wb, wc, (InclA.ok he).2 (hM.symm ▸ sink_least vM (by omega) (by rw [hm]; exact hT)), by rw [e0]; rfl, rfl⟩
theorem inclC (w : World) (a b : DFA) (j k : DK) (ha : At w a j) (hb : At w b k) (haa : a.next.length < 9223372036854775807) (haar : ∀ r ∈ a.next, r.length < 9223372036854775807) (haaf : a.final.length < 9223372036854775807) (hbb : b.next.length < 9223372036854775807) (hbbr : ∀ r ∈ b.next, r.length < 9223372036854775807) (hbbf : b.final.length < 9223372036854775807) (hn : wrongD a b = 0 → a.next.length * b.next.length ≤ 64) :
    PureT Tryd.prog 26 [dV a j, dV b k] w fun v N => ∃ res wb wc, InclA a b res ∧ v = .tuple #[.slice wb (res.getD []).length wc, .bool (decide (wrongD a b = 0) && !res.isSome), .int .i64 (wrongD a b : Int)] ∧ N = [rowI wb wc 5 1 (byts (res.getD []))] := by
  by_cases he : wrongD a b = 0
  · refine (inclOk w a b j k ha hb haa haar haaf hbb hbbr hbbf he (hn he)).mono ?_
    rintro v N ⟨res, wb, wc, h1, rfl, rfl⟩
    exact ⟨res, wb, wc, h1, by rw [he]; rfl, rfl⟩
  · refine (CallT.addNil 5 1 (inclBad w a b j k ha hb haa haar haaf hbb hbbr hbbf he)).mono ?_
    rintro v N ⟨O2, rfl, rfl, rfl⟩
    exact ⟨none, none, 0, by unfold InclA; rw [if_neg he], by rw [decide_eq_false he]; rfl, rfl⟩
end Go.Proofs.YtdaapdamcekkgaaDoor


namespace Go.Proofs.YtdaapdamcekkgaaDoor
open Go.Lx Go.RowKit
set_option linter.unusedVariables false
set_option linter.unusedSimpArgs false
set_option maxHeartbeats 1000000 in
set_option maxRecDepth 20000 in
theorem applyC (w : World) (op : Int) (a b : DFA) (j k : DK) (ha : At w a j) (hb : At w b k) (haa : a.next.length < 9223372036854775807) (haar : ∀ r ∈ a.next, r.length < 9223372036854775807) (haaf : a.final.length < 9223372036854775807) (hbb : b.next.length < 9223372036854775807) (hbbr : ∀ r ∈ b.next, r.length < 9223372036854775807) (hbbf : b.final.length < 9223372036854775807) (hN : wrongD a b = 0 → a.next.length * b.next.length ≤ 4096 ∧ ∀ f, (order (prodD f a b)).length < 100) :
    PureT Tryd.prog 18 [.int .i64 op, dV a j, dV b k] w fun v N => ∃ k' : DK, v = .tuple #[dV (opV (opB op) a b) k', .int .i64 (wrongD a b : Int)] ∧ N = [dI 52 4 3 (opV (opB op) a b) k'] := by
  refine CallT.enter Tryd.func18 rfl Tryd.ntmps18 rfl ?_
  refine T.seq (T.region ?_)
  refine TO.loud rfl (l_box (v := (dV a j)) (cs := (dC a j)) rfl rfl (fun bx1 => ?_))
  refine TO.loud rfl (l_box (v := (dV b k)) (cs := (dC b k)) rfl rfl (fun bx2 => ?_))
  refine TO.loud rfl (l_alloc inf25 rfl (fun bx3 => ?_))
  refine TO.quiet (q_assign rfl) ?_
  refine TO.nil (T.seq (T.seq (T.region ?_)))
  refine TO.quiet (q_move rfl) ?_
  refine TO.nil (T.block (T.seq (T.region ?_)))
  refine TO.quiet (q_eql rfl rfl) (TO.quiet (q_assign rfl) ?_)
  refine TO.nil ?_
  refine T.condP rfl (fun hc => ?_) (fun hc => ?_)
  · refine T.seq ?_
    refine T.region ?_
    refine TO.quiet (q_load_boxAgg 2 Tryd.underlying25 rfl inf25 rfl rfl rfl) (TO.quiet (q_load_boxAgg 1 Tryd.underlying25 rfl inf25 rfl rfl rfl) ?_)
    have hk13 := fun (w1 : World) (hI : Inv w [oI bx3 25 [(.int .i64 0), (.int .i64 0), (.slice none 0 0), (.slice none 0 0)], oI bx2 25 (dC b k), oI bx1 25 (dC a j)] w1) => (show PureT _ _ _ _ _ from by
        have h9 := andC w1 a b j k (hI.atB ha) (hI.atB hb) haa haar haaf hbb hbbr hbbf (fun hw => ⟨(hN hw).1, (hN hw).2 andB⟩)
        rw [show andB = opB op by unfold opB; rw [if_pos (by omega)]] at h9
        exact h9)
    refine TO.loud rfl (l_call ent22 (CallT.of_pure hk13) rfl ?_)
    clear hk13
    rintro vr O' ⟨N, rfl, k', rfl, rfl⟩
    refine TO.quiet (q_extract (vs := _) rfl rfl) (TO.quiet (q_extract (vs := _) rfl rfl) ?_)
    refine TO.loud rfl (l_store_box (v := (dV (opV (opB op) a b) k')) (vs := (dC (opV (opB op) a b) k')) 1 inf25 rfl rfl rfl rfl rfl rfl (by simp [putL]) ?_)
    refine TO.quiet (q_assign rfl) ?_
    refine TO.nil (T.ret (Res.drop ?_))
    refine Res.cell1b (.int .i64 (wrongD a b : Int)) (i := 1) Tryd.results18 Tryd.underlying25 rfl inf25 rfl rfl rfl rfl ?_
    exact ⟨[dI 52 4 3 (opV (opB op) a b) k'], (by exact Sub.k .z), k', rfl, rfl⟩
  refine T.seq (T.region ?_)
  refine TO.quiet (q_eql rfl rfl) (TO.quiet (q_assign rfl) ?_)
  refine TO.nil ?_
  refine T.condP rfl (fun hc => ?_) (fun hc => ?_)
  · refine T.seq ?_
    refine T.region ?_
    refine TO.quiet (q_load_boxAgg 2 Tryd.underlying25 rfl inf25 rfl rfl rfl) (TO.quiet (q_load_boxAgg 1 Tryd.underlying25 rfl inf25 rfl rfl rfl) ?_)
    have hk20 := fun (w1 : World) (hI : Inv w [oI bx3 25 [(.int .i64 0), (.int .i64 0), (.slice none 0 0), (.slice none 0 0)], oI bx2 25 (dC b k), oI bx1 25 (dC a j)] w1) => (show PureT _ _ _ _ _ from by
        have h9 := orC w1 a b j k (hI.atB ha) (hI.atB hb) haa haar haaf hbb hbbr hbbf (fun hw => ⟨(hN hw).1, (hN hw).2 orB⟩)
        rw [show orB = opB op by unfold opB; rw [if_neg (by omega), if_pos (by omega)]] at h9
        exact h9)
    refine TO.loud rfl (l_call ent23 (CallT.of_pure hk20) rfl ?_)
    clear hk20
    rintro vr O' ⟨N, rfl, k', rfl, rfl⟩
    refine TO.quiet (q_extract (vs := _) rfl rfl) (TO.quiet (q_extract (vs := _) rfl rfl) ?_)
    refine TO.loud rfl (l_store_box (v := (dV (opV (opB op) a b) k')) (vs := (dC (opV (opB op) a b) k')) 1 inf25 rfl rfl rfl rfl rfl rfl (by simp [putL]) ?_)
    refine TO.quiet (q_assign rfl) ?_
    refine TO.nil (T.ret (Res.drop ?_))
    refine Res.cell1b (.int .i64 (wrongD a b : Int)) (i := 1) Tryd.results18 Tryd.underlying25 rfl inf25 rfl rfl rfl rfl ?_
    exact ⟨[dI 52 4 3 (opV (opB op) a b) k'], (by exact Sub.k .z), k', rfl, rfl⟩
  refine T.seq (T.region ?_)
  refine TO.quiet (q_eql rfl rfl) (TO.quiet (q_assign rfl) ?_)
  refine TO.nil ?_
  refine T.condP rfl (fun hc => ?_) (fun hc => ?_)
  · refine T.seq ?_
    refine T.region ?_
    refine TO.quiet (q_load_boxAgg 2 Tryd.underlying25 rfl inf25 rfl rfl rfl) (TO.quiet (q_load_boxAgg 1 Tryd.underlying25 rfl inf25 rfl rfl rfl) ?_)
    have hk27 := fun (w1 : World) (hI : Inv w [oI bx3 25 [(.int .i64 0), (.int .i64 0), (.slice none 0 0), (.slice none 0 0)], oI bx2 25 (dC b k), oI bx1 25 (dC a j)] w1) => (show PureT _ _ _ _ _ from by
        have h9 := xorC w1 a b j k (hI.atB ha) (hI.atB hb) haa haar haaf hbb hbbr hbbf (fun hw => ⟨(hN hw).1, (hN hw).2 xorB⟩)
        rw [show xorB = opB op by unfold opB; rw [if_neg (by omega), if_neg (by omega), if_pos (by omega)]] at h9
        exact h9)
    refine TO.loud rfl (l_call ent24 (CallT.of_pure hk27) rfl ?_)
    clear hk27
    rintro vr O' ⟨N, rfl, k', rfl, rfl⟩
    refine TO.quiet (q_extract (vs := _) rfl rfl) (TO.quiet (q_extract (vs := _) rfl rfl) ?_)
    refine TO.loud rfl (l_store_box (v := (dV (opV (opB op) a b) k')) (vs := (dC (opV (opB op) a b) k')) 1 inf25 rfl rfl rfl rfl rfl rfl (by simp [putL]) ?_)
    refine TO.quiet (q_assign rfl) ?_
    refine TO.nil (T.ret (Res.drop ?_))
    refine Res.cell1b (.int .i64 (wrongD a b : Int)) (i := 1) Tryd.results18 Tryd.underlying25 rfl inf25 rfl rfl rfl rfl ?_
    exact ⟨[dI 52 4 3 (opV (opB op) a b) k'], (by exact Sub.k .z), k', rfl, rfl⟩
  refine T.skip (T.seq (T.region ?_))
  refine TO.quiet (q_load_boxAgg 2 Tryd.underlying25 rfl inf25 rfl rfl rfl) (TO.quiet (q_load_boxAgg 1 Tryd.underlying25 rfl inf25 rfl rfl rfl) ?_)
  have hk32 := fun (w1 : World) (hI : Inv w [oI bx3 25 [(.int .i64 0), (.int .i64 0), (.slice none 0 0), (.slice none 0 0)], oI bx2 25 (dC b k), oI bx1 25 (dC a j)] w1) => (show PureT _ _ _ _ _ from by
      have h9 := minusC w1 a b j k (hI.atB ha) (hI.atB hb) haa haar haaf hbb hbbr hbbf (fun hw => ⟨(hN hw).1, (hN hw).2 minusB⟩)
      rw [show minusB = opB op by unfold opB; rw [if_neg (by omega), if_neg (by omega), if_neg (by omega)]] at h9
      exact h9)
  refine TO.loud rfl (l_call ent25 (CallT.of_pure hk32) rfl ?_)
  clear hk32
  rintro vr O' ⟨N, rfl, k', rfl, rfl⟩
  refine TO.quiet (q_extract (vs := _) rfl rfl) (TO.quiet (q_extract (vs := _) rfl rfl) ?_)
  refine TO.loud rfl (l_store_box (v := (dV (opV (opB op) a b) k')) (vs := (dC (opV (opB op) a b) k')) 1 inf25 rfl rfl rfl rfl rfl rfl (by simp [putL]) ?_)
  refine TO.quiet (q_assign rfl) ?_
  refine TO.nil (T.ret (Res.drop ?_))
  refine Res.cell1b (.int .i64 (wrongD a b : Int)) (i := 1) Tryd.results18 Tryd.underlying25 rfl inf25 rfl rfl rfl rfl ?_
  exact ⟨[dI 52 4 3 (opV (opB op) a b) k'], (by exact Sub.k .z), k', rfl, rfl⟩
end Go.Proofs.YtdaapdamcekkgaaDoor


namespace Go.Lx
open Go.RowKit
set_option linter.unusedVariables false
def exO : DFA := ⟨1, 0, [[2, 1], [1, 1], [2, 2]], [false, true, false]⟩
def exE : DFA := ⟨1, 0, [[1, 1], [0, 0]], [true, false]⟩
theorem exO_valid : Valid exO := checkD_zero.1 (by decide)
theorem exE_valid : Valid exE := checkD_zero.1 (by decide)
theorem exO_has : HasL 1 3 exO (acc exO) := HasL.of exO_valid (by decide)
theorem exE_has : HasL 1 2 exE (acc exE) := HasL.of exE_valid (by decide)
theorem oe_wrong : wrongD exO exE = 0 := wrongD_zero.2 ⟨exO_valid, exE_valid, rfl⟩
theorem HasL.accV {v : Int} {n : Nat} {d : DFA} {p : List Nat → Bool} (h : HasL v n d p) {w : List Nat} (hw : WdV v w) (hl : w.length ≤ 64) : Lx.accV d w = p w := by
  rw [accV_zero (runE_zero.2 ⟨h.valid, hl, h.wd.2 hw⟩), h.acc w hw]
theorem oe_op (f : Bool → Bool → Bool) : MinL 1 6 (opV f exO exE) (fun w => f (acc exO w) (acc exE w)) := by
  rw [opV_ok oe_wrong]; exact exO_has.op exE_has (by decide)
theorem oe_acc (f : Bool → Bool → Bool) {w : List Nat} (hw : ∀ x ∈ w, x < 2) (hl : w.length ≤ 64) : accV (opV f exO exE) w = f (acc exO w) (acc exE w) := (oe_op f).toHasL.accV hw hl
theorem oe_small (f : Bool → Bool → Bool) : wrongD exO exE = 0 → exO.next.length * exE.next.length ≤ 4096 ∧ (order (prodD f exO exE)).length < 100 := fun _ =>
  ⟨by decide, Nat.lt_of_le_of_lt (pr_order_le exO_valid exE_valid rfl) (by decide)⟩
theorem code_low {u : List Nat} (h : code u ≤ 1) : u = [] ∨ u = [0] := by
  have c0 : ∀ w : List Nat, code w = 0 → w = [] := by
    refine snocInd (fun _ => rfl) ?_
    intro l x _ h; rw [code_snoc] at h; omega
  revert h
  refine snocInd (p := fun u => code u ≤ 1 → u = [] ∨ u = [0]) (fun _ => .inl rfl) ?_ u
  intro l x _ h
  rw [code_snoc] at h
  have h1 : code l = 0 := by omega
  have h2 : x = 0 := by omega
  rw [c0 l h1, h2]; exact .inr rfl
theorem oe_incl {res : Option (List Nat)} (h : InclA exO exE res) : res = some [1] := by
  have hL : LeastA (opD minusB exO exE) (some [1]) := by
    have hm := oe_op minusB
    rw [opV_ok oe_wrong] at hm
    have w1 : WdV 1 [1] := (show ∀ x ∈ [1], x < 2 ^ (1 : Int).toNat by decide)
    refine ⟨hm.wd.2 w1, by rw [hm.acc [1] w1]; decide, fun u hu ha => ?_⟩
    rw [hm.acc u (hm.wd.1 hu)] at ha
    refine Classical.byContradiction fun hc => ?_
    have h1 : code [1] = 2 := by decide
    rcases code_low (u := u) (by omega) with rfl | rfl
    · exact absurd ha (by decide)
    · exact absurd ha (by decide)
  exact ((InclA.ok oe_wrong).1 h).unique (opD_valid exO_valid exE_valid rfl (by decide)) hL
theorem on_wrong : checkD exO = 0 := checkD_zero.2 exO_valid
theorem on_not : opV notB exO exO = notD exO := opV_ok (wrongD_zero.2 ⟨exO_valid, exO_valid, rfl⟩)
theorem on_min : MinL 1 9 (notD exO) (fun w => !acc exO w) := exO_has.not (by decide)
theorem on_len : (notD exO).next.length ≤ 3 := notD_len exO_valid (by decide)
theorem on_has : HasL 1 3 (notD exO) (fun w => !acc exO w) := ⟨on_min.valid, on_len, on_min.vars, on_min.acc⟩
theorem nn_not : opV notB (notD exO) (notD exO) = notD (notD exO) := opV_ok (wrongD_zero.2 ⟨on_min.valid, on_min.valid, rfl⟩)
theorem nn_min : MinL 1 9 (notD (notD exO)) (fun w => !!acc exO w) := on_has.not (by decide)
theorem nn_len : (notD (notD exO)).next.length ≤ 3 := Nat.le_trans (notD_len on_min.valid (by have := on_len; exact Nat.le_trans (Nat.mul_le_mul this this) (by decide))) on_len
theorem nn_has : HasL 1 3 (notD (notD exO)) (acc exO) := ⟨nn_min.valid, nn_len, nn_min.vars, fun w hw => by rw [nn_min.acc w hw]; simp⟩
theorem nn_wrong : wrongD exO (notD (notD exO)) = 0 := wrongD_zero.2 ⟨exO_valid, nn_min.valid, rfl⟩
theorem nn_eql : eqlA exO (notD (notD exO)) = true := by
  rw [eqlA_ok nn_wrong]
  have := (same_iff exO_has nn_has (by decide)).2 fun _ _ => rfl
  rw [this.1, this.2]; rfl
theorem nn_small : wrongD exO (notD (notD exO)) = 0 → exO.next.length * (notD (notD exO)).next.length ≤ 4096 ∧ (order (prodD xorB exO (notD (notD exO)))).length < 100 := fun _ => by
  have h1 : exO.next.length = 3 := rfl
  have h2 := nn_len
  have h3 := pr_order_le (f := xorB) exO_valid nn_min.valid (show exO.vars = (notD (notD exO)).vars from rfl)
  rw [h1] at h3 ⊢
  exact ⟨by omega, by omega⟩
theorem aw_facts : accV (opV andB exO exE) [1, 0] = true ∧ accV (opV andB exO exE) [1, 1] = true ∧ accV (opV minusB exO exE) [1] = true ∧ accV (opV orB exO exE) [] = true ∧ accV (opV xorB exO exE) [] = true ∧ accV (opV andB exO exE) [] = false := by
  refine ⟨?_, ?_, ?_, ?_, ?_, ?_⟩ <;> (rw [oe_acc _ (by decide) (by decide)]; decide)
theorem min_bounds {v : Int} {n : Nat} {d : DFA} {p : List Nat → Bool} (h : HasL v n d p) : d.next.length < 9223372036854775807 ∧ (∀ r ∈ d.next, r.length < 9223372036854775807) ∧ d.final.length < 9223372036854775807 :=
  ⟨by have := h.valid.n4; omega, h.valid.bound, by have := h.valid.fin; have := h.valid.n4; omega⟩
end Go.Lx


namespace Go.Proofs.YtdaapdamcekkgaaDoor
open Go.Lx Go.RowKit
set_option linter.unusedVariables false
set_option linter.unusedSimpArgs false
set_option maxHeartbeats 1000000 in
set_option maxRecDepth 20000 in
theorem indexFunc (base : World) (b : Option Addr) (c : Nat) (xs : List Nat) (hS : Sl base b (byts xs)) (hb : xs.length < 9223372036854775807) (fv : Value) (p : Nat → Bool) (OO : List Lx.Item) (hy : ∀ x ∈ xs, CallV Tryd.prog base fv [.int .u8 (x : Int)] OO (fun v O' => v = .bool (p x) ∧ O' = OO)) :
    CallT Tryd.prog base 89 [.slice b xs.length c, fv] OO (fun v O' => ∃ i : Int, v = .int .i64 i ∧ decide (i ≥ 0) = xs.any p ∧ O' = OO) := by
  refine CallT.enter Tryd.func89 rfl Tryd.ntmps89 rfl ?_
  refine T.seq (T.region ?_)
  refine TO.quiet (q_assign rfl) ?_
  refine TO.nil (T.seq (T.seq (T.region ?_)))
  refine TO.quiet (q_move rfl) (TO.quiet (q_len Tryd.underlying35 rfl) (TO.quiet (q_move rfl) ?_))
  refine TO.nil (T.block ?_)
  refine T.loop (fun (k : Nat) ρ O => O = ([] ++ OO) ∧ k ≤ xs.length ∧ (xs.take k).any p = false ∧ Heads [(0, (.slice b xs.length c)), (1, fv), (7, .int .i64 (xs.length : Int)), (8, .int .i64 (k : Int))] ρ) (fun k => xs.length - k) 0 ?_ ?_
  · exact ⟨rfl, Nat.zero_le _, rfl, ⟨rfl, rfl, rfl, rfl, trivial⟩⟩
  rintro k ρ O ⟨rfl, hk, hany, hH⟩
  obtain ⟨ρ0, rfl⟩ := hH.elim
  clear hH
  refine T.seq (T.region ?_)
  refine TO.quiet (q_lss rfl rfl) ?_
  refine TO.nil (T.seq ?_)
  refine T.condP rfl (fun hc => ?_) (fun hc => ?_)
  · have hlt9 : k < xs.length := by omega
    refine T.skip (T.seq (T.block (T.seq (T.region ?_))))
    refine TO.quiet (q_move rfl) (TO.quiet (q_assign rfl) ?_)
    refine TO.nil (T.seq (T.region ?_))
    refine TO.quiet (q_move rfl) (TO.quiet (q_move rfl) (TO.quiet (q_move rfl) (TO.quiet (q_ix (i := k) Tryd.underlying35 inf5 rfl rfl (Sl.o hS) hlt9 (by rw [List.length_map]; exact hlt9)) ?_)))
    refine TO.quiet (q_ld Tryd.underlying5 rfl rfl (Sl.o hS) (byts_get hlt9)) ?_
    have hk16 := hy xs[k] (List.getElem_mem hlt9)
    refine TO.loud rfl (l_callG hk16 rfl rfl ?_)
    clear hk16
    rintro v O' ⟨rfl, rfl⟩
    refine TO.nil ?_
    refine T.cond rfl (fun hc => ?_) (fun hc => ?_)
    · refine T.seq ?_
      refine T.region ?_
      refine TO.quiet (q_move rfl) (TO.quiet (q_assign rfl) ?_)
      refine TO.nil (T.ret (Res.drop ?_))
      refine Res.one (.int .i64 (k : Int)) Tryd.results89 rfl ?_
      exact ⟨_, Sub.of (List.Sublist.refl _), k, rfl, by rw [any_at hlt9 hc]; exact decide_eq_true (by omega), rfl⟩
    refine T.skip (T.region ?_)
    refine TO.quiet (q_inc rfl rfl (by omega)) (TO.quiet (q_move rfl) ?_)
    refine TO.nil ?_
    exact ⟨k + 1, by omega, rfl, by omega, any_take hlt9 hany hc, ⟨rfl, rfl, rfl, rfl, trivial⟩⟩
  have hge9 : ¬ k < xs.length := by omega
  refine T.exit ?_
  refine T.seq (T.region ?_)
  refine TO.quiet (q_assign rfl) ?_
  refine TO.nil (T.ret (Res.drop ?_))
  refine Res.one (.int .i64 (-1)) Tryd.results89 rfl ?_
  exact ⟨_, Sub.of (List.Sublist.refl _), -1, rfl, by rw [List.take_of_length_le (by omega)] at hany; rw [hany]; decide, rfl⟩
set_option maxHeartbeats 1000000 in
set_option maxRecDepth 20000 in
theorem containsFunc (base : World) (b : Option Addr) (c : Nat) (xs : List Nat) (hS : Sl base b (byts xs)) (hb : xs.length < 9223372036854775807) (fv : Value) (p : Nat → Bool) (OO : List Lx.Item) (hy : ∀ x ∈ xs, CallV Tryd.prog base fv [.int .u8 (x : Int)] OO (fun v O' => v = .bool (p x) ∧ O' = OO)) :
    CallT Tryd.prog base 74 [.slice b xs.length c, fv] OO (fun v O' => v = .bool (xs.any p) ∧ O' = OO) := by
  refine CallT.enter Tryd.func74 rfl Tryd.ntmps74 rfl ?_
  refine T.seq (T.region ?_)
  refine TO.quiet (q_assign rfl) ?_
  refine TO.nil (T.seq (T.region ?_))
  refine TO.quiet (q_move rfl) (TO.quiet (q_move rfl) ?_)
  have hk7 := indexFunc base b c xs hS hb fv p OO hy
  refine TO.loud rfl (l_call ent89 hk7 rfl ?_)
  clear hk7
  rintro v O' ⟨i, rfl, hi, rfl⟩
  refine TO.quiet (q_geq rfl rfl) (TO.quiet (q_assign rfl) ?_)
  refine TO.nil (T.ret (Res.drop ?_))
  refine Res.one (.bool (decide (i ≥ 0))) Tryd.results74 rfl ?_
  exact ⟨_, Sub.of (List.Sublist.refl _), congrArg Value.bool hi, rfl⟩
set_option maxHeartbeats 1000000 in
set_option maxRecDepth 20000 in
theorem tooGreat (base : World) (d : DFA) (nb fb : Option Addr) (nc fc : Nat) (hv0 : 0 ≤ d.vars) (hv6 : d.vars ≤ 6) (bx x : Nat) (hx : x < 256) :
    CallT Tryd.prog base 75 [.int .u8 (x : Int), .pointer (some ⟨bx, 0, none⟩)] [oI bx 25 [(.int .i64 d.vars), (.int .i64 d.start), (.slice nb d.next.length nc), (.slice fb d.final.length fc)]] (fun v O' => v = .bool (decide (2 ^ d.vars.toNat ≤ x)) ∧ O' = [oI bx 25 [(.int .i64 d.vars), (.int .i64 d.start), (.slice nb d.next.length nc), (.slice fb d.final.length fc)]]) := by
  refine CallT.enter Tryd.func75 rfl Tryd.ntmps75 rfl ?_
  refine T.seq (T.region ?_)
  refine TO.quiet (q_assign rfl) ?_
  refine TO.nil (T.seq (T.region ?_))
  refine TO.quiet (q_move rfl) (TO.quiet (q_conv_id Tryd.underlying5 Tryd.underlying3 rfl (wrap64_id ⟨by omega, by omega⟩)) (TO.quiet (q_fieldAddr Tryd.underlying25 rfl inf3 rfl rfl) (TO.quiet (q_load_box 0 Tryd.underlying3 rfl rfl rfl rfl) ?_)))
  refine TO.quiet (q_shl1 (v := d.vars.toNat) rfl (by show Value.int _ d.vars = _; rw [Int.toNat_of_nonneg hv0]) (by omega)) (TO.quiet (q_geq rfl rfl) (TO.quiet (q_assign rfl) ?_))
  refine TO.nil (T.ret ?_)
  refine Res.one (.bool (decide ((x : Int) ≥ ((2 ^ d.vars.toNat : Nat) : Int)))) Tryd.results75 rfl ?_
  exact ⟨congrArg Value.bool (decide_eq_decide.2 (by omega)), rfl⟩
set_option maxHeartbeats 1000000 in
set_option maxRecDepth 20000 in
theorem runM (w : World) (d : DFA) (nb fb : Option Addr) (nc fc : Nat) (vs : List Value) (h : DfaAt w d nb vs fb) (hv : Valid d) (wb : Option Addr) (wc : Nat) (l : List Nat) (hW : Sl w wb (byts l)) (hwb : l.length < 9223372036854775807) (hwd : Wd d l) :
    PureT Tryd.prog 76 [.agg (dfaCells d nb nc fb fc).toArray, .slice wb l.length wc] w fun v N => v = .int .i64 ((Lx.runN d d.start.toNat l : Nat) : Int) ∧ N = [] := by
  refine CallT.enter Tryd.func76 rfl Tryd.ntmps76 rfl ?_
  have hs0 := hv.s0
  have hs1 := hv.s1
  have hvl := h.rows.1
  refine T.seq (T.region ?_)
  refine TO.loud rfl (l_box (v := (.agg #[(.int .i64 d.vars), (.int .i64 d.start), (.slice nb d.next.length nc), (.slice fb d.final.length fc)])) (cs := [(.int .i64 d.vars), (.int .i64 d.start), (.slice nb d.next.length nc), (.slice fb d.final.length fc)]) rfl rfl (fun b1 => ?_))
  refine TO.quiet (q_assign rfl) ?_
  refine TO.nil (T.seq (T.region ?_))
  refine TO.quiet (q_fieldAddr Tryd.underlying98 rfl inf25 rfl rfl) (TO.quiet (q_fieldAddr Tryd.underlying25 rfl inf3 rfl rfl) (TO.quiet (QT.cast (q_load_box 0 Tryd.underlying3 rfl rfl rfl rfl) (v' := .int .i64 ((Lx.runN d d.start.toNat (l.take 0) : Nat) : Int)) (by show Value.int _ d.start = _; rw [show Lx.runN d d.start.toNat (l.take 0) = d.start.toNat from rfl, Int.toNat_of_nonneg hs0])) (TO.quiet (q_assign rfl) ?_)))
  refine TO.nil (T.seq (T.seq (T.region ?_)))
  refine TO.quiet (q_move rfl) (TO.quiet (q_len Tryd.underlying35 rfl) (TO.quiet (q_move rfl) ?_))
  refine TO.nil (T.block ?_)
  refine T.loop (fun (k : Nat) ρ O => O = [oI b1 98 [(.int .i64 d.vars), (.int .i64 d.start), (.slice nb d.next.length nc), (.slice fb d.final.length fc)]] ∧ k ≤ l.length ∧ Heads [(0, (.agg #[(.int .i64 d.vars), (.int .i64 d.start), (.slice nb d.next.length nc), (.slice fb d.final.length fc)])), (1, (.slice wb l.length wc)), (2, (.pointer (some ⟨b1, 0, none⟩))), (4, .int .i64 0), (5, .int .i64 ((Lx.runN d d.start.toNat (l.take k) : Nat) : Int)), (11, (.slice wb l.length wc)), (12, .int .i64 (l.length : Int)), (13, .int .i64 (k : Int))] ρ) (fun k => l.length - k) 0 ?_ ?_
  · exact ⟨rfl, Nat.zero_le _, ⟨rfl, rfl, rfl, rfl, rfl, rfl, rfl, rfl, trivial⟩⟩
  rintro k ρ O ⟨rfl, hk, hH⟩
  obtain ⟨ρ0, rfl⟩ := hH.elim
  clear hH
  refine T.seq (T.region ?_)
  refine TO.quiet (q_lss rfl rfl) ?_
  refine TO.nil (T.seq ?_)
  refine T.condP rfl (fun hc => ?_) (fun hc => ?_)
  · have hlt14 : k < l.length := by omega
    obtain ⟨o, ho⟩ : ∃ o, Lx.runN d d.start.toNat (l.take k) = o := ⟨_, rfl⟩
    have ho9 : o < d.next.length := by rw [← ho]; exact runN_lt hv (by omega) _ (fun x hx => hwd x (List.mem_of_mem_take hx))
    have hlx : l[k] < 2 ^ d.vars.toNat := hwd _ (List.getElem_mem hlt14)
    obtain ⟨vb, vc, g1, s1⟩ := h.rows.get ho9
    have hl1 : d.next[o].length = 2 ^ d.vars.toNat := hv.len _ (List.getElem_mem ho9)
    obtain ⟨hta, _, hxk1, hx1⟩ := hv.toN_lt ho9 hlx
    have hx1 : (ints d.next[o])[l[k]]? = some (.int .i64 ((toN d o l[k] : Nat) : Int)) := by rw [ints_get hxk1, hx1]
    refine T.skip (T.seq (T.block (T.seq (T.region ?_))))
    refine TO.quiet (q_ix (i := k) Tryd.underlying35 inf5 rfl rfl (Sl.o hW) hlt14 (by rw [List.length_map]; exact hlt14)) (TO.quiet (q_ld Tryd.underlying5 rfl rfl (Sl.o hW) (byts_get hlt14)) (TO.quiet (q_assign rfl) ?_))
    refine TO.nil (T.region ?_)
    refine TO.quiet (q_fieldAddr Tryd.underlying98 rfl inf25 rfl rfl) (TO.quiet (q_fieldAddr Tryd.underlying25 rfl inf22 rfl rfl) (TO.quiet (q_load_box 0 Tryd.underlying22 rfl rfl rfl rfl) (TO.quiet (QT.cast (q_move rfl) (v' := .int .i64 ((o : Nat) : Int)) (by show Value.int _ _ = _; rw [ho])) ?_)))
    refine TO.quiet (q_ix (i := o) Tryd.underlying22 inf52 rfl rfl (Sl.o h.outer) ho9 (hvl ▸ ho9)) (TO.quiet (q_ld Tryd.underlying52 rfl rfl (Sl.o h.outer) g1) (TO.quiet (q_move rfl) (TO.quiet (q_ix (i := l[k]) Tryd.underlying52 inf3 rfl rfl (Sl.o s1) (by rw [hl1]; exact hlx) (by rw [List.length_map, hl1]; exact hlx)) ?_)))
    refine TO.quiet (q_ld Tryd.underlying3 rfl rfl (Sl.o s1) hx1) (TO.quiet (q_assign rfl) ?_)
    refine TO.nil (T.region ?_)
    refine TO.quiet (q_inc rfl rfl (by omega)) (TO.quiet (q_move rfl) ?_)
    refine TO.nil ?_
    refine ⟨k + 1, by omega, rfl, by omega, ?_⟩
    rw [runN_take hlt14, ho]; exact ⟨rfl, rfl, rfl, rfl, rfl, rfl, rfl, rfl, trivial⟩
  have hge14 : ¬ k < l.length := by omega
  refine T.exit ?_
  refine T.seq (T.region ?_)
  refine TO.quiet (q_move rfl) (TO.quiet (q_assign rfl) ?_)
  refine TO.nil (T.ret (Res.drop ?_))
  refine Res.one (.int .i64 ((Lx.runN d d.start.toNat (l.take k) : Nat) : Int)) Tryd.results76 rfl ?_
  have hke : k = l.length := by omega
  exact ⟨[], Sub.of (List.nil_sublist _), by rw [List.take_of_length_le (by omega)], rfl⟩
set_option maxHeartbeats 1000000 in
set_option maxRecDepth 20000 in
theorem runA (w : World) (d : DFA) (nb fb : Option Addr) (nc fc : Nat) (vs : List Value) (h : DfaAt w d nb vs fb) (hb : d.next.length < 9223372036854775807) (hbr : ∀ r ∈ d.next, r.length < 9223372036854775807) (hbf : d.final.length < 9223372036854775807) (wb : Option Addr) (wc : Nat) (l : List Nat) (hW : Sl w wb (byts l)) (hwb : l.length < 9223372036854775807) (hw8 : ∀ x ∈ l, x < 256) :
    PureT Tryd.prog 50 [.agg (dfaCells d nb nc fb fc).toArray, .slice wb l.length wc] w fun v N => v = .tuple #[.int .i64 ((runV d l : Nat) : Int), .int .i64 ((runE d l : Nat) : Int)] ∧ N = [] := by
  refine CallT.enter Tryd.func50 rfl Tryd.ntmps50 rfl ?_
  refine T.seq (T.region ?_)
  refine TO.loud rfl (l_box (v := (.agg #[(.int .i64 d.vars), (.int .i64 d.start), (.slice nb d.next.length nc), (.slice fb d.final.length fc)])) (cs := [(.int .i64 d.vars), (.int .i64 d.start), (.slice nb d.next.length nc), (.slice fb d.final.length fc)]) rfl rfl (fun b1 => ?_))
  refine TO.quiet (q_assign rfl) (TO.quiet (q_assign rfl) ?_)
  refine TO.nil (T.seq (T.seq (T.region ?_)))
  refine TO.quiet (q_load_boxAgg 0 Tryd.underlying25 rfl inf25 rfl rfl rfl) ?_
  have hk9 := fun (w1 : World) (hI : Inv w [oI b1 25 [(.int .i64 d.vars), (.int .i64 d.start), (.slice nb d.next.length nc), (.slice fb d.final.length fc)]] w1) => subsetCheck w1 d nb fb nc fc vs (hI.dfa h) hb hbr hbf
  refine TO.loud rfl (l_call ent20 (CallT.of_pure hk9) rfl ?_)
  clear hk9
  rintro v O' ⟨N, rfl, rfl, rfl⟩
  refine TO.quiet (q_assign rfl) ?_
  refine TO.nil (T.seq (T.region ?_))
  refine TO.quiet (q_move rfl) ?_
  by_cases hE : (checkD d : Int) ≠ 0
  · refine TO.quiet (QT.toB (q_neq rfl rfl) (decide_eq_true hE)) ?_
    refine TO.nil ?_
    refine T.cond1 rfl ?_
    refine T.seq (T.region ?_)
    refine TO.quiet (q_move rfl) (TO.quiet (q_assign rfl) (TO.quiet (q_assign rfl) ?_))
    refine TO.nil (T.ret (Res.drop ?_))
    refine Res.two (.int .i64 0) (.int .i64 (checkD d : Int)) Tryd.results50 rfl rfl ?_
    have hE1 : runE d l = checkD d := by unfold runE; rw [if_pos (by omega)]
    have hE0 : ¬ runE d l = 0 := by omega
    exact ⟨[], Sub.of (List.nil_sublist _), by unfold runV; rw [if_neg hE0, hE1]; try rfl, rfl⟩
  refine TO.quiet (QT.toB (q_neq rfl rfl) (decide_eq_false hE)) ?_
  refine TO.nil ?_
  refine T.cond0 rfl ?_
  refine T.skip (T.seq (T.block (T.seq ?_)))
  have he : checkD d = 0 := by omega
  have hv : Valid d := checkD_zero.1 he
  refine T.region ?_
  refine TO.quiet (q_move rfl) (TO.quiet (q_len Tryd.underlying35 rfl) ?_)
  by_cases h64 : (l.length : Int) > 64
  · refine TO.quiet (QT.toB (q_gtr rfl rfl) (decide_eq_true h64)) ?_
    refine TO.quiet (q_assign rfl) ?_
    refine TO.nil ?_
    refine T.cond1 rfl ?_
    refine T.seq (T.region ?_)
    refine TO.quiet (q_assign rfl) (TO.quiet (q_assign rfl) ?_)
    refine TO.nil (T.ret (Res.drop ?_))
    refine Res.two (.int .i64 0) (.int .i64 4) Tryd.results50 rfl rfl ?_
    have hE1 : runE d l = 4 := by unfold runE; rw [if_neg (by simp [he]), if_pos (by omega)]
    have hE0 : ¬ runE d l = 0 := by omega
    exact ⟨[], Sub.of (List.nil_sublist _), by unfold runV; rw [if_neg hE0, hE1]; try rfl, rfl⟩
  refine TO.quiet (QT.toB (q_gtr rfl rfl) (decide_eq_false h64)) (TO.quiet (q_assign rfl) ?_)
  refine TO.nil ?_
  refine T.cond0 rfl ?_
  refine T.seq (T.region ?_)
  refine TO.quiet (q_move rfl) (TO.quiet (q_makeFunc) ?_)
  by_cases hany : l.any (fun x => decide (2 ^ d.vars.toNat ≤ x)) = true
  · have hk20 := (containsFunc w wb wc l hW hwb (.func (.func 75) #[] #[.pointer (some ⟨b1, 0, none⟩)]) (fun x => decide (2 ^ d.vars.toNat ≤ x)) [oI b1 25 [(.int .i64 d.vars), (.int .i64 d.start), (.slice nb d.next.length nc), (.slice fb d.final.length fc)]] (fun x hx => CallV.of_fn (first := []) (args := [.int .u8 (x : Int)]) (caps := [.pointer (some ⟨b1, 0, none⟩)]) ent75 (tooGreat w d nb fb nc fc hv.v0 hv.v6 b1 x (hw8 x hx)))).mono (fun v O' hh => (⟨hh.1.trans (congrArg Value.bool ((show ∀ b : Bool, b = decide (b = true) from fun b => by cases b <;> rfl) _)), hh.2⟩ : v = .bool (decide (l.any (fun x => decide (2 ^ d.vars.toNat ≤ x)) = true)) ∧ O' = [oI b1 25 [(.int .i64 d.vars), (.int .i64 d.start), (.slice nb d.next.length nc), (.slice fb d.final.length fc)]]))
    refine TO.loud rfl (l_call ent74 hk20 rfl ?_)
    clear hk20
    rintro v O' ⟨rfl, rfl⟩
    rw [decide_eq_true hany]
    refine TO.quiet (q_assign rfl) ?_
    refine TO.nil ?_
    refine T.cond1 rfl ?_
    refine T.seq (T.region ?_)
    refine TO.quiet (q_assign rfl) (TO.quiet (q_assign rfl) ?_)
    refine TO.nil (T.ret (Res.drop ?_))
    refine Res.two (.int .i64 0) (.int .i64 1) Tryd.results50 rfl rfl ?_
    have hE1 : runE d l = 1 := by unfold runE; rw [if_neg (by simp [he]), if_neg (by omega), if_pos hany]
    have hE0 : ¬ runE d l = 0 := by omega
    exact ⟨[], Sub.of (List.nil_sublist _), by unfold runV; rw [if_neg hE0, hE1]; try rfl, rfl⟩
  have hk20 := (containsFunc w wb wc l hW hwb (.func (.func 75) #[] #[.pointer (some ⟨b1, 0, none⟩)]) (fun x => decide (2 ^ d.vars.toNat ≤ x)) [oI b1 25 [(.int .i64 d.vars), (.int .i64 d.start), (.slice nb d.next.length nc), (.slice fb d.final.length fc)]] (fun x hx => CallV.of_fn (first := []) (args := [.int .u8 (x : Int)]) (caps := [.pointer (some ⟨b1, 0, none⟩)]) ent75 (tooGreat w d nb fb nc fc hv.v0 hv.v6 b1 x (hw8 x hx)))).mono (fun v O' hh => (⟨hh.1.trans (congrArg Value.bool ((show ∀ b : Bool, b = decide (b = true) from fun b => by cases b <;> rfl) _)), hh.2⟩ : v = .bool (decide (l.any (fun x => decide (2 ^ d.vars.toNat ≤ x)) = true)) ∧ O' = [oI b1 25 [(.int .i64 d.vars), (.int .i64 d.start), (.slice nb d.next.length nc), (.slice fb d.final.length fc)]]))
  refine TO.loud rfl (l_call ent74 hk20 rfl ?_)
  clear hk20
  rintro v O' ⟨rfl, rfl⟩
  rw [decide_eq_false hany]
  refine TO.quiet (q_assign rfl) ?_
  refine TO.nil ?_
  refine T.cond0 rfl ?_
  refine T.skip (T.seq ?_)
  have hE0 : runE d l = 0 := by unfold runE; rw [if_neg (by simp [he]), if_neg (by omega), if_neg hany]
  have hwd : Wd d l := (runE_zero.1 hE0).2.2
  refine T.region ?_
  refine TO.quiet (q_load_boxAgg 0 Tryd.underlying25 rfl inf25 rfl rfl rfl) (TO.quiet (q_build (cs := [(.int .i64 d.vars), (.int .i64 d.start), (.slice nb d.next.length nc), (.slice fb d.final.length fc)]) plan98 inf98 (by kernel_rfl)) (TO.quiet (q_makeFunc) (TO.quiet (q_assign rfl) ?_)))
  refine TO.nil (T.seq (T.region ?_))
  refine TO.quiet (q_move rfl) (TO.quiet (q_move rfl) ?_)
  have hk26 := CallV.of_fn (first := [.agg (dfaCells d nb nc fb fc).toArray]) (args := [.slice wb l.length wc]) (caps := []) ent76 (CallT.of_pure (fun w1 (hI : Inv w [oI b1 25 [(.int .i64 d.vars), (.int .i64 d.start), (.slice nb d.next.length nc), (.slice fb d.final.length fc)]] w1) => runM w1 d nb fb nc fc vs (hI.dfa h) hv wb wc l (hI.sl hW) hwb hwd))
  refine TO.loud rfl (l_callG hk26 rfl rfl ?_)
  clear hk26
  rintro v O' ⟨N, rfl, rfl, rfl⟩
  refine TO.quiet (q_assign rfl) (TO.quiet (q_assign rfl) ?_)
  refine TO.nil (T.ret (Res.drop ?_))
  refine Res.two (.int .i64 ((Lx.runN d d.start.toNat l : Nat) : Int)) (.int .i64 0) Tryd.results50 rfl rfl ?_
  have hE1 := hE0
  exact ⟨[], Sub.of (List.nil_sublist _), by unfold runV; rw [if_pos hE0, hE1]; try rfl, rfl⟩
set_option maxHeartbeats 1000000 in
set_option maxRecDepth 20000 in
theorem acceptsA (w : World) (d : DFA) (nb fb : Option Addr) (nc fc : Nat) (vs : List Value) (h : DfaAt w d nb vs fb) (hb : d.next.length < 9223372036854775807) (hbr : ∀ r ∈ d.next, r.length < 9223372036854775807) (hbf : d.final.length < 9223372036854775807) (wb : Option Addr) (wc : Nat) (l : List Nat) (hW : Sl w wb (byts l)) (hwb : l.length < 9223372036854775807) (hw8 : ∀ x ∈ l, x < 256) :
    PureT Tryd.prog 19 [.agg (dfaCells d nb nc fb fc).toArray, .slice wb l.length wc] w fun v N => v = .tuple #[.bool (accV d l), .int .i64 ((runE d l : Nat) : Int)] ∧ N = [] := by
  refine CallT.enter Tryd.func19 rfl Tryd.ntmps19 rfl ?_
  refine T.seq (T.region ?_)
  refine TO.loud rfl (l_box (v := (.agg #[(.int .i64 d.vars), (.int .i64 d.start), (.slice nb d.next.length nc), (.slice fb d.final.length fc)])) (cs := [(.int .i64 d.vars), (.int .i64 d.start), (.slice nb d.next.length nc), (.slice fb d.final.length fc)]) rfl rfl (fun b1 => ?_))
  refine TO.quiet (q_assign rfl) (TO.quiet (q_assign rfl) ?_)
  refine TO.nil (T.seq (T.region ?_))
  refine TO.quiet (q_load_boxAgg 0 Tryd.underlying25 rfl inf25 rfl rfl rfl) (TO.quiet (q_move rfl) ?_)
  have hk11 := fun (w1 : World) (hI : Inv w [oI b1 25 [(.int .i64 d.vars), (.int .i64 d.start), (.slice nb d.next.length nc), (.slice fb d.final.length fc)]] w1) => runA w1 d nb fb nc fc vs (hI.dfa h) hb hbr hbf wb wc l (hI.sl hW) hwb hw8
  refine TO.loud rfl (l_call ent50 (CallT.of_pure hk11) rfl ?_)
  clear hk11
  rintro v O' ⟨N, rfl, rfl, rfl⟩
  refine TO.quiet (q_move rfl) (TO.quiet (q_extract (vs := _) rfl rfl) (TO.quiet (q_extract (vs := _) rfl rfl) (TO.quiet (q_assign rfl) ?_)))
  refine TO.quiet (q_assign rfl) ?_
  refine TO.nil (T.seq ?_)
  have hfin : runE d l = 0 → runV d l < d.final.length := fun h0 => by
    obtain ⟨hv, _, hwd⟩ := runE_zero.1 h0
    unfold runV; rw [if_pos h0, hv.fin]
    exact runN_lt hv (by have := hv.s0; have := hv.s1; omega) _ hwd
  refine T.region ?_
  refine TO.quiet (q_move rfl) ?_
  by_cases h0 : ((runE d l : Nat) : Int) = 0
  · refine TO.quiet (QT.toB (q_eql rfl rfl) (decide_eq_true h0)) ?_
    refine TO.quiet (q_move rfl) ?_
    refine TO.guarded rfl rfl rfl (LT.of_quiet rfl rfl (q_fieldAddr Tryd.underlying25 rfl inf23 rfl rfl) ?_)
    refine TO.guarded rfl rfl rfl (LT.of_quiet rfl rfl (q_load_box 0 Tryd.underlying23 rfl rfl rfl rfl) ?_)
    refine TO.guarded rfl rfl rfl (LT.of_quiet rfl rfl (q_move rfl) ?_)
    refine TO.guarded rfl rfl rfl (LT.of_quiet rfl rfl (q_ix (i := (runV d l)) Tryd.underlying23 inf4 rfl rfl (Sl.o h.final) (hfin (by omega)) (by rw [List.length_map]; exact hfin (by omega))) ?_)
    refine TO.guarded rfl rfl rfl (LT.of_quiet rfl rfl (q_ld Tryd.underlying4 rfl rfl (Sl.o h.final) (show (bools d.final)[runV d l]? = some (.bool (finN d (runV d l))) by rw [bools_get (hfin (by omega))]; simp [finN, hfin (by omega)])) ?_)
    refine TO.quiet (q_pick1 rfl rfl) (TO.quiet (q_move rfl) (TO.quiet (q_assign rfl) (TO.quiet (q_assign rfl) ?_)))
    refine TO.nil (T.ret (Res.drop ?_))
    refine Res.two (.bool (finN d (runV d l))) (.int .i64 ((runE d l : Nat) : Int)) Tryd.results19 rfl rfl ?_
    have h9 : runE d l = 0 := by omega
    exact ⟨[], Sub.of (List.nil_sublist _), by unfold accV runV; rw [if_pos h9, if_pos h9], rfl⟩
  refine TO.quiet (QT.toB (q_eql rfl rfl) (decide_eq_false h0)) (TO.quiet (q_move rfl) ?_)
  refine TO.passed rfl rfl ?_
  refine TO.passed rfl rfl ?_
  refine TO.passed rfl rfl ?_
  refine TO.passed rfl rfl ?_
  refine TO.passed rfl rfl ?_
  refine TO.quiet (q_pick0 rfl rfl) (TO.quiet (q_move rfl) (TO.quiet (q_assign rfl) (TO.quiet (q_assign rfl) ?_)))
  refine TO.nil (T.ret (Res.drop ?_))
  refine Res.two (.bool false) (.int .i64 ((runE d l : Nat) : Int)) Tryd.results19 rfl rfl ?_
  have h9 : ¬ runE d l = 0 := by omega
  exact ⟨[], Sub.of (List.nil_sublist _), by unfold accV; rw [if_neg h9], rfl⟩
end Go.Proofs.YtdaapdamcekkgaaDoor


namespace Go.Proofs.YtdaapdamcekkgaaDoor
open Go.Lx Go.RowKit
set_option linter.unusedVariables false
set_option linter.unusedSimpArgs false
set_option maxHeartbeats 1000000 in
set_option maxRecDepth 20000 in
theorem accF (w : World) (a : DFA) (j : DK) (ha : At w a j) (haa : a.next.length < 9223372036854775807) (haar : ∀ r ∈ a.next, r.length < 9223372036854775807) (haaf : a.final.length < 9223372036854775807) (wb : Option Addr) (wc : Nat) (l : List Nat) (hW : Sl w wb (byts l)) (hwb : l.length < 9223372036854775807) (hw8 : ∀ x ∈ l, x < 256) :
    PureT Tryd.prog 28 [dV a j, .slice wb l.length wc] w fun v N => v = .bool (accV a l) ∧ N = [] := by
  refine CallT.enter Tryd.func28 rfl Tryd.ntmps28 rfl ?_
  refine T.seq (T.region ?_)
  refine TO.loud rfl (l_box (v := (dV a j)) (cs := (dC a j)) rfl rfl (fun bx1 => ?_))
  refine TO.quiet (q_assign rfl) ?_
  refine TO.nil (T.seq (T.region ?_))
  refine TO.quiet (q_load_boxAgg 0 Tryd.underlying25 rfl inf25 rfl rfl rfl) (TO.quiet (q_move rfl) ?_)
  have hk10 := fun (w1 : World) (hI : Inv w [oI bx1 25 (dC a j)] w1) => acceptsA w1 a j.nb j.fb j.nc j.fc (vals j.qs) (hI.dfa ha) haa haar haaf wb wc l (hI.sl hW) hwb hw8
  refine TO.loud rfl (l_call ent19 (CallT.of_pure hk10) rfl ?_)
  clear hk10
  rintro vr O' ⟨N, rfl, rfl, rfl⟩
  refine TO.quiet (q_move rfl) (TO.quiet (q_extract (vs := _) rfl rfl) (TO.quiet (q_extract (vs := _) rfl rfl) (TO.quiet (q_assign rfl) ?_)))
  refine TO.quiet (q_assign rfl) ?_
  refine TO.nil (T.seq (T.region ?_))
  refine TO.quiet (q_move rfl) ?_
  by_cases hs14 : (accV a l) = true
  · refine TO.quiet (QT.toB (q_move rfl) (hs14)) ?_
    refine TO.guarded rfl rfl rfl (LT.of_quiet rfl rfl (q_move rfl) ?_)
    refine TO.guarded rfl rfl rfl (LT.of_quiet rfl rfl (q_eql rfl rfl) ?_)
    refine TO.quiet (q_pick1 rfl rfl) (TO.quiet (q_assign rfl) ?_)
    refine TO.nil (T.ret (Res.drop ?_))
    refine Res.one (.bool (decide ((runE a l : Int) = 0))) Tryd.results28 rfl ?_
    exact ⟨[], Sub.z, congrArg Value.bool (by
      by_cases he : runE a l = 0
      · simp_all
      · have h9 : accV a l = false := by unfold accV; rw [if_neg he]
        simp_all), rfl⟩
  refine TO.quiet (QT.toB (q_move rfl) (Bool.eq_false_iff.2 hs14)) ?_
  refine TO.passed rfl rfl ?_
  refine TO.passed rfl rfl ?_
  refine TO.quiet (q_pick0 rfl rfl) (TO.quiet (q_assign rfl) ?_)
  refine TO.nil (T.ret (Res.drop ?_))
  refine Res.one (.bool false) Tryd.results28 rfl ?_
  exact ⟨[], Sub.z, congrArg Value.bool (by
    by_cases he : runE a l = 0
    · simp_all
    · have h9 : accV a l = false := by unfold accV; rw [if_neg he]
      simp_all), rfl⟩
set_option maxHeartbeats 1000000 in
set_option maxRecDepth 20000 in
theorem oneK (w : World) : PureT Tryd.prog 34 [] w fun v N => ∃ k' : DK, v = dV exO k' ∧ N = [dI 52 4 3 exO k'] := by
  refine CallT.enter Tryd.func34 rfl Tryd.ntmps34 rfl ?_
  refine T.seq (T.region ?_)
  refine TO.loud rfl (l_alloc inf25 rfl (fun z1 => ?_))
  refine TO.nil (T.seq (T.region ?_))
  refine TO.loud rfl (l_buildSlice (m := 2) (parts := [(0, .const (.int .i64 2)), (1, .const (.int .i64 1))]) (cs := [.int .i64 2, .int .i64 1]) Tryd.underlying52 inf3 (by decide) (by kernel_rfl) rfl (fun z2 => ?_))
  refine TO.loud rfl (l_buildSlice (m := 2) (parts := [(0, .const (.int .i64 1)), (1, .const (.int .i64 1))]) (cs := [.int .i64 1, .int .i64 1]) Tryd.underlying52 inf3 (by decide) (by kernel_rfl) rfl (fun z3 => ?_))
  refine TO.loud rfl (l_buildSlice (m := 2) (parts := [(0, .const (.int .i64 2)), (1, .const (.int .i64 2))]) (cs := [.int .i64 2, .int .i64 2]) Tryd.underlying52 inf3 (by decide) (by kernel_rfl) rfl (fun z4 => ?_))
  refine TO.loud rfl (l_buildSlice (m := 3) (parts := [(0, .tmp 1), (1, .tmp 2), (2, .tmp 3)]) (cs := [(.slice (some ⟨z2, 0, none⟩) 2 2), (.slice (some ⟨z3, 0, none⟩) 2 2), (.slice (some ⟨z4, 0, none⟩) 2 2)]) Tryd.underlying22 inf52 (by decide) (by kernel_rfl) rfl (fun z5 => ?_))
  refine TO.loud rfl (l_buildSlice (m := 3) (parts := [(0, .const (.bool false)), (1, .const (.bool true)), (2, .const (.bool false))]) (cs := [.bool false, .bool true, .bool false]) Tryd.underlying23 inf4 (by decide) (by kernel_rfl) rfl (fun z6 => ?_))
  refine TO.quiet (q_build (cs := [.int .i64 1, (.int .i64 0), (.slice (some ⟨z5, 0, none⟩) 3 3), (.slice (some ⟨z6, 0, none⟩) 3 3)]) plan25 inf25 (by kernel_rfl)) ?_
  refine TO.loud rfl (l_store_box (v := (.agg #[.int .i64 1, (.int .i64 0), (.slice (some ⟨z5, 0, none⟩) 3 3), (.slice (some ⟨z6, 0, none⟩) 3 3)])) (vs := [.int .i64 1, (.int .i64 0), (.slice (some ⟨z5, 0, none⟩) 3 3), (.slice (some ⟨z6, 0, none⟩) 3 3)]) 5 inf25 rfl rfl rfl rfl rfl rfl (by simp [putL]) ?_)
  refine TO.nil ?_
  refine T.sub (O' := [rowI (some ⟨z5, 0, none⟩) 3 52 1 [(.slice (some ⟨z2, 0, none⟩) 2 2), (.slice (some ⟨z3, 0, none⟩) 2 2), (.slice (some ⟨z4, 0, none⟩) 2 2)], rowI (some ⟨z6, 0, none⟩) 3 4 1 [.bool false, .bool true, .bool false], rowI (some ⟨z2, 0, none⟩) 2 3 1 [.int .i64 2, .int .i64 1], rowI (some ⟨z3, 0, none⟩) 2 3 1 [.int .i64 1, .int .i64 1], rowI (some ⟨z4, 0, none⟩) 2 3 1 [.int .i64 2, .int .i64 2], oI z1 25 [.int .i64 1, (.int .i64 0), (.slice (some ⟨z5, 0, none⟩) 3 3), (.slice (some ⟨z6, 0, none⟩) 3 3)]]) (by exact Sub.pull [rowI (some ⟨z6, 0, none⟩) 3 4 1 [.bool false, .bool true, .bool false]] _ (.k (.pull [rowI (some ⟨z4, 0, none⟩) 2 3 1 [.int .i64 2, .int .i64 2], rowI (some ⟨z3, 0, none⟩) 2 3 1 [.int .i64 1, .int .i64 1]] _ (.pull [rowI (some ⟨z4, 0, none⟩) 2 3 1 [.int .i64 2, .int .i64 2]] _ (.k (.k .z)))))) ?_
  obtain ⟨k0, hk0⟩ : ∃ k : DK, k = ⟨some ⟨z5, 0, none⟩, 3, some ⟨z6, 0, none⟩, 3, [⟨some ⟨z2, 0, none⟩, 2, [2, 1]⟩, ⟨some ⟨z3, 0, none⟩, 2, [1, 1]⟩, ⟨some ⟨z4, 0, none⟩, 2, [2, 2]⟩]⟩ := ⟨_, rfl⟩
  refine T.sub (O' := (([rowI k0.nb k0.nc 52 1 (vals k0.qs), rowI k0.fb k0.fc 4 1 (bools exO.final)] ++ itms 3 k0.qs) ++ [oI z1 25 [.int .i64 1, (.int .i64 0), (.slice (some ⟨z5, 0, none⟩) 3 3), (.slice (some ⟨z6, 0, none⟩) 3 3)]])) (by subst hk0; exact Sub.rf) ?_
  refine T.pack (φ := nums k0.qs = exO.next) (by subst hk0; rfl) ?_
  refine T.sub (O' := [dI 52 4 3 exO k0, oI z1 25 (dC exO k0)]) (by subst hk0; exact Sub.rf) ?_
  refine T.ret (Res.drop ?_)
  refine Res.cell1 (i := 1) Tryd.results34 Tryd.underlying25 rfl inf25 rfl rfl rfl ?_
  exact ⟨[dI 52 4 3 exO k0], (by exact Sub.k .z), k0, rfl, rfl⟩
set_option maxHeartbeats 1000000 in
set_option maxRecDepth 20000 in
theorem evenK (w : World) : PureT Tryd.prog 39 [] w fun v N => ∃ k' : DK, v = dV exE k' ∧ N = [dI 52 4 3 exE k'] := by
  refine CallT.enter Tryd.func39 rfl Tryd.ntmps39 rfl ?_
  refine T.seq (T.region ?_)
  refine TO.loud rfl (l_alloc inf25 rfl (fun z1 => ?_))
  refine TO.nil (T.seq (T.region ?_))
  refine TO.loud rfl (l_buildSlice (m := 2) (parts := [(0, .const (.int .i64 1)), (1, .const (.int .i64 1))]) (cs := [.int .i64 1, .int .i64 1]) Tryd.underlying52 inf3 (by decide) (by kernel_rfl) rfl (fun z2 => ?_))
  refine TO.loud rfl (l_buildSlice (m := 2) (parts := [(0, .const (.int .i64 0)), (1, .const (.int .i64 0))]) (cs := [.int .i64 0, .int .i64 0]) Tryd.underlying52 inf3 (by decide) (by kernel_rfl) rfl (fun z3 => ?_))
  refine TO.loud rfl (l_buildSlice (m := 2) (parts := [(0, .tmp 1), (1, .tmp 2)]) (cs := [(.slice (some ⟨z2, 0, none⟩) 2 2), (.slice (some ⟨z3, 0, none⟩) 2 2)]) Tryd.underlying22 inf52 (by decide) (by kernel_rfl) rfl (fun z4 => ?_))
  refine TO.loud rfl (l_buildSlice (m := 2) (parts := [(0, .const (.bool true)), (1, .const (.bool false))]) (cs := [.bool true, .bool false]) Tryd.underlying23 inf4 (by decide) (by kernel_rfl) rfl (fun z5 => ?_))
  refine TO.quiet (q_build (cs := [.int .i64 1, (.int .i64 0), (.slice (some ⟨z4, 0, none⟩) 2 2), (.slice (some ⟨z5, 0, none⟩) 2 2)]) plan25 inf25 (by kernel_rfl)) ?_
  refine TO.loud rfl (l_store_box (v := (.agg #[.int .i64 1, (.int .i64 0), (.slice (some ⟨z4, 0, none⟩) 2 2), (.slice (some ⟨z5, 0, none⟩) 2 2)])) (vs := [.int .i64 1, (.int .i64 0), (.slice (some ⟨z4, 0, none⟩) 2 2), (.slice (some ⟨z5, 0, none⟩) 2 2)]) 4 inf25 rfl rfl rfl rfl rfl rfl (by simp [putL]) ?_)
  refine TO.nil ?_
  refine T.sub (O' := [rowI (some ⟨z4, 0, none⟩) 2 52 1 [(.slice (some ⟨z2, 0, none⟩) 2 2), (.slice (some ⟨z3, 0, none⟩) 2 2)], rowI (some ⟨z5, 0, none⟩) 2 4 1 [.bool true, .bool false], rowI (some ⟨z2, 0, none⟩) 2 3 1 [.int .i64 1, .int .i64 1], rowI (some ⟨z3, 0, none⟩) 2 3 1 [.int .i64 0, .int .i64 0], oI z1 25 [.int .i64 1, (.int .i64 0), (.slice (some ⟨z4, 0, none⟩) 2 2), (.slice (some ⟨z5, 0, none⟩) 2 2)]]) (by exact Sub.pull [rowI (some ⟨z5, 0, none⟩) 2 4 1 [.bool true, .bool false]] _ (.k (.pull [rowI (some ⟨z3, 0, none⟩) 2 3 1 [.int .i64 0, .int .i64 0]] _ (.k (.k .z))))) ?_
  obtain ⟨k0, hk0⟩ : ∃ k : DK, k = ⟨some ⟨z4, 0, none⟩, 2, some ⟨z5, 0, none⟩, 2, [⟨some ⟨z2, 0, none⟩, 2, [1, 1]⟩, ⟨some ⟨z3, 0, none⟩, 2, [0, 0]⟩]⟩ := ⟨_, rfl⟩
  refine T.sub (O' := (([rowI k0.nb k0.nc 52 1 (vals k0.qs), rowI k0.fb k0.fc 4 1 (bools exE.final)] ++ itms 3 k0.qs) ++ [oI z1 25 [.int .i64 1, (.int .i64 0), (.slice (some ⟨z4, 0, none⟩) 2 2), (.slice (some ⟨z5, 0, none⟩) 2 2)]])) (by subst hk0; exact Sub.rf) ?_
  refine T.pack (φ := nums k0.qs = exE.next) (by subst hk0; rfl) ?_
  refine T.sub (O' := [dI 52 4 3 exE k0, oI z1 25 (dC exE k0)]) (by subst hk0; exact Sub.rf) ?_
  refine T.ret (Res.drop ?_)
  refine Res.cell1 (i := 1) Tryd.results39 Tryd.underlying25 rfl inf25 rfl rfl rfl ?_
  exact ⟨[dI 52 4 3 exE k0], (by exact Sub.k .z), k0, rfl, rfl⟩
set_option maxHeartbeats 4000000 in
set_option maxRecDepth 20000 in
theorem awakeC (w : World) : PureT Tryd.prog 11 [] w fun v N => v = .bool true ∧ N = [] := by
  refine CallT.enter Tryd.func11 rfl Tryd.ntmps11 rfl ?_
  have exO_b := min_bounds exO_has
  have exE_b := min_bounds exE_has
  obtain ⟨fA1, fA2, fM, fO, fX, fA3⟩ := aw_facts
  have bA := min_bounds (oe_op andB).toHasL
  have bM := min_bounds (oe_op minusB).toHasL
  have bO := min_bounds (oe_op orB).toHasL
  have bX := min_bounds (oe_op xorB).toHasL
  have bN := min_bounds on_has
  have bB := min_bounds nn_has
  have vN := on_min.valid
  have lN := on_len
  have hsB := nn_small
  have eE := nn_eql
  have eW := nn_wrong
  obtain ⟨mA, eA⟩ : ∃ m, opV andB exO exE = m := ⟨_, rfl⟩
  obtain ⟨mM, eM⟩ : ∃ m, opV minusB exO exE = m := ⟨_, rfl⟩
  obtain ⟨mO, eO⟩ : ∃ m, opV orB exO exE = m := ⟨_, rfl⟩
  obtain ⟨mX, eX⟩ : ∃ m, opV xorB exO exE = m := ⟨_, rfl⟩
  have emA := eA
  have emM := eM
  have emO := eO
  have emX := eX
  have eB := nn_not
  have eN := on_not
  obtain ⟨mB, hmB⟩ : ∃ m, notD (notD exO) = m := ⟨_, rfl⟩
  rw [hmB] at eB bB hsB eE eW
  obtain ⟨mN, hmN⟩ : ∃ m, notD exO = m := ⟨_, rfl⟩
  rw [hmN] at eN eB bN vN lN
  rw [eA] at fA1 fA2 fA3 bA
  rw [eM] at fM bM
  rw [eO] at fO bO
  rw [eX] at fX bX
  refine T.seq (T.region ?_)
  refine TO.quiet (q_assign rfl) ?_
  refine TO.nil (T.seq (T.region ?_))
  have hk19 := fun (w1 : World) (hI : Inv w [] w1) => oneK w1
  refine TO.loud rfl (l_call ent34 (CallT.of_pure hk19) rfl ?_)
  clear hk19
  rintro vr O' ⟨N, rfl, ka1, rfl, rfl⟩
  have hk20 := fun (w1 : World) (hI : Inv w [dI 52 4 3 exO ka1] w1) => evenK w1
  refine TO.loud rfl (l_call ent39 (CallT.of_pure hk20) rfl ?_)
  clear hk20
  rintro vr O' ⟨N, rfl, kb1, rfl, rfl⟩
  have hk21 := fun (w1 : World) (hI : Inv w [dI 52 4 3 exE kb1, dI 52 4 3 exO ka1] w1) => (show PureT _ _ _ _ _ from by
      have h9 := andC w1 exO exE ka1 kb1 (hI.at (k := ka1) (List.mem_of_getElem? (i := 1) rfl)) (hI.at (k := kb1) (List.mem_of_getElem? (i := 0) rfl)) exO_b.1 exO_b.2.1 exO_b.2.2 exE_b.1 exE_b.2.1 exE_b.2.2 (oe_small andB)
      rw [oe_wrong, emA] at h9
      exact h9)
  refine TO.loud rfl (l_call ent22 (CallT.of_pure hk21) rfl ?_)
  clear hk21
  rintro vr O' ⟨N, rfl, kmA, rfl, rfl⟩
  refine TO.quiet (q_move rfl) (TO.quiet (q_extract (vs := _) rfl rfl) (TO.quiet (q_extract (vs := _) rfl rfl) ?_))
  refine TO.loud rfl (l_alloc inf25 rfl (fun bx1 => ?_))
  refine TO.loud rfl (l_store_box (v := (dV mA kmA)) (vs := (dC mA kmA)) 0 inf25 rfl rfl rfl rfl rfl rfl (by simp [putL]) ?_)
  refine TO.quiet (q_assign rfl) ?_
  refine TO.sub (O' := [oI bx1 25 (dC mA kmA), dI 52 4 3 mA kmA]) (by exact Sub.k (.k .z)) ?_
  refine TO.nil (T.seq (T.region ?_))
  have hk25 := fun (w1 : World) (hI : Inv w [oI bx1 25 (dC mA kmA), dI 52 4 3 mA kmA] w1) => oneK w1
  refine TO.loud rfl (l_call ent34 (CallT.of_pure hk25) rfl ?_)
  clear hk25
  rintro vr O' ⟨N, rfl, ka2, rfl, rfl⟩
  have hk26 := fun (w1 : World) (hI : Inv w [dI 52 4 3 exO ka2, oI bx1 25 (dC mA kmA), dI 52 4 3 mA kmA] w1) => evenK w1
  refine TO.loud rfl (l_call ent39 (CallT.of_pure hk26) rfl ?_)
  clear hk26
  rintro vr O' ⟨N, rfl, kb2, rfl, rfl⟩
  have hk27 := fun (w1 : World) (hI : Inv w [dI 52 4 3 exE kb2, dI 52 4 3 exO ka2, oI bx1 25 (dC mA kmA), dI 52 4 3 mA kmA] w1) => (show PureT _ _ _ _ _ from by
      have h9 := minusC w1 exO exE ka2 kb2 (hI.at (k := ka2) (List.mem_of_getElem? (i := 1) rfl)) (hI.at (k := kb2) (List.mem_of_getElem? (i := 0) rfl)) exO_b.1 exO_b.2.1 exO_b.2.2 exE_b.1 exE_b.2.1 exE_b.2.2 (oe_small minusB)
      rw [oe_wrong, emM] at h9
      exact h9)
  refine TO.loud rfl (l_call ent25 (CallT.of_pure hk27) rfl ?_)
  clear hk27
  rintro vr O' ⟨N, rfl, kmM, rfl, rfl⟩
  refine TO.quiet (q_move rfl) (TO.quiet (q_extract (vs := _) rfl rfl) (TO.quiet (q_extract (vs := _) rfl rfl) ?_))
  refine TO.loud rfl (l_alloc inf25 rfl (fun bx2 => ?_))
  refine TO.loud rfl (l_store_box (v := (dV mM kmM)) (vs := (dC mM kmM)) 0 inf25 rfl rfl rfl rfl rfl rfl (by simp [putL]) ?_)
  refine TO.quiet (q_assign rfl) ?_
  refine TO.sub (O' := [oI bx2 25 (dC mM kmM), dI 52 4 3 mM kmM, oI bx1 25 (dC mA kmA), dI 52 4 3 mA kmA]) (by exact Sub.k (.k (.d (.d (.k (.k .z)))))) ?_
  refine TO.nil (T.seq (T.region ?_))
  have hk31 := fun (w1 : World) (hI : Inv w [oI bx2 25 (dC mM kmM), dI 52 4 3 mM kmM, oI bx1 25 (dC mA kmA), dI 52 4 3 mA kmA] w1) => oneK w1
  refine TO.loud rfl (l_call ent34 (CallT.of_pure hk31) rfl ?_)
  clear hk31
  rintro vr O' ⟨N, rfl, ka3, rfl, rfl⟩
  have hk32 := fun (w1 : World) (hI : Inv w [dI 52 4 3 exO ka3, oI bx2 25 (dC mM kmM), dI 52 4 3 mM kmM, oI bx1 25 (dC mA kmA), dI 52 4 3 mA kmA] w1) => evenK w1
  refine TO.loud rfl (l_call ent39 (CallT.of_pure hk32) rfl ?_)
  clear hk32
  rintro vr O' ⟨N, rfl, kb3, rfl, rfl⟩
  have hk33 := fun (w1 : World) (hI : Inv w [dI 52 4 3 exE kb3, dI 52 4 3 exO ka3, oI bx2 25 (dC mM kmM), dI 52 4 3 mM kmM, oI bx1 25 (dC mA kmA), dI 52 4 3 mA kmA] w1) => (show PureT _ _ _ _ _ from by
      have h9 := orC w1 exO exE ka3 kb3 (hI.at (k := ka3) (List.mem_of_getElem? (i := 1) rfl)) (hI.at (k := kb3) (List.mem_of_getElem? (i := 0) rfl)) exO_b.1 exO_b.2.1 exO_b.2.2 exE_b.1 exE_b.2.1 exE_b.2.2 (oe_small orB)
      rw [oe_wrong, emO] at h9
      exact h9)
  refine TO.loud rfl (l_call ent23 (CallT.of_pure hk33) rfl ?_)
  clear hk33
  rintro vr O' ⟨N, rfl, kmO, rfl, rfl⟩
  refine TO.quiet (q_move rfl) (TO.quiet (q_extract (vs := _) rfl rfl) (TO.quiet (q_extract (vs := _) rfl rfl) ?_))
  refine TO.loud rfl (l_alloc inf25 rfl (fun bx3 => ?_))
  refine TO.loud rfl (l_store_box (v := (dV mO kmO)) (vs := (dC mO kmO)) 0 inf25 rfl rfl rfl rfl rfl rfl (by simp [putL]) ?_)
  refine TO.quiet (q_assign rfl) ?_
  refine TO.sub (O' := [oI bx3 25 (dC mO kmO), dI 52 4 3 mO kmO, oI bx2 25 (dC mM kmM), dI 52 4 3 mM kmM, oI bx1 25 (dC mA kmA), dI 52 4 3 mA kmA]) (by exact Sub.k (.k (.d (.d (.k (.k (.k (.k .z)))))))) ?_
  refine TO.nil (T.seq (T.region ?_))
  have hk37 := fun (w1 : World) (hI : Inv w [oI bx3 25 (dC mO kmO), dI 52 4 3 mO kmO, oI bx2 25 (dC mM kmM), dI 52 4 3 mM kmM, oI bx1 25 (dC mA kmA), dI 52 4 3 mA kmA] w1) => oneK w1
  refine TO.loud rfl (l_call ent34 (CallT.of_pure hk37) rfl ?_)
  clear hk37
  rintro vr O' ⟨N, rfl, ka4, rfl, rfl⟩
  have hk38 := fun (w1 : World) (hI : Inv w [dI 52 4 3 exO ka4, oI bx3 25 (dC mO kmO), dI 52 4 3 mO kmO, oI bx2 25 (dC mM kmM), dI 52 4 3 mM kmM, oI bx1 25 (dC mA kmA), dI 52 4 3 mA kmA] w1) => evenK w1
  refine TO.loud rfl (l_call ent39 (CallT.of_pure hk38) rfl ?_)
  clear hk38
  rintro vr O' ⟨N, rfl, kb4, rfl, rfl⟩
  have hk39 := fun (w1 : World) (hI : Inv w [dI 52 4 3 exE kb4, dI 52 4 3 exO ka4, oI bx3 25 (dC mO kmO), dI 52 4 3 mO kmO, oI bx2 25 (dC mM kmM), dI 52 4 3 mM kmM, oI bx1 25 (dC mA kmA), dI 52 4 3 mA kmA] w1) => (show PureT _ _ _ _ _ from by
      have h9 := xorC w1 exO exE ka4 kb4 (hI.at (k := ka4) (List.mem_of_getElem? (i := 1) rfl)) (hI.at (k := kb4) (List.mem_of_getElem? (i := 0) rfl)) exO_b.1 exO_b.2.1 exO_b.2.2 exE_b.1 exE_b.2.1 exE_b.2.2 (oe_small xorB)
      rw [oe_wrong, emX] at h9
      exact h9)
  refine TO.loud rfl (l_call ent24 (CallT.of_pure hk39) rfl ?_)
  clear hk39
  rintro vr O' ⟨N, rfl, kmX, rfl, rfl⟩
  refine TO.quiet (q_move rfl) (TO.quiet (q_extract (vs := _) rfl rfl) (TO.quiet (q_extract (vs := _) rfl rfl) ?_))
  refine TO.loud rfl (l_alloc inf25 rfl (fun bx4 => ?_))
  refine TO.loud rfl (l_store_box (v := (dV mX kmX)) (vs := (dC mX kmX)) 0 inf25 rfl rfl rfl rfl rfl rfl (by simp [putL]) ?_)
  refine TO.quiet (q_assign rfl) ?_
  refine TO.sub (O' := [oI bx4 25 (dC mX kmX), dI 52 4 3 mX kmX, oI bx3 25 (dC mO kmO), dI 52 4 3 mO kmO, oI bx2 25 (dC mM kmM), dI 52 4 3 mM kmM, oI bx1 25 (dC mA kmA), dI 52 4 3 mA kmA]) (by exact Sub.k (.k (.d (.d (.k (.k (.k (.k (.k (.k .z)))))))))) ?_
  refine TO.nil (T.seq (T.region ?_))
  have hk43 := fun (w1 : World) (hI : Inv w [oI bx4 25 (dC mX kmX), dI 52 4 3 mX kmX, oI bx3 25 (dC mO kmO), dI 52 4 3 mO kmO, oI bx2 25 (dC mM kmM), dI 52 4 3 mM kmM, oI bx1 25 (dC mA kmA), dI 52 4 3 mA kmA] w1) => oneK w1
  refine TO.loud rfl (l_call ent34 (CallT.of_pure hk43) rfl ?_)
  clear hk43
  rintro vr O' ⟨N, rfl, ka5, rfl, rfl⟩
  have hk44 := fun (w1 : World) (hI : Inv w [dI 52 4 3 exO ka5, oI bx4 25 (dC mX kmX), dI 52 4 3 mX kmX, oI bx3 25 (dC mO kmO), dI 52 4 3 mO kmO, oI bx2 25 (dC mM kmM), dI 52 4 3 mM kmM, oI bx1 25 (dC mA kmA), dI 52 4 3 mA kmA] w1) => evenK w1
  refine TO.loud rfl (l_call ent39 (CallT.of_pure hk44) rfl ?_)
  clear hk44
  rintro vr O' ⟨N, rfl, kb5, rfl, rfl⟩
  have hk45 := fun (w1 : World) (hI : Inv w [dI 52 4 3 exE kb5, dI 52 4 3 exO ka5, oI bx4 25 (dC mX kmX), dI 52 4 3 mX kmX, oI bx3 25 (dC mO kmO), dI 52 4 3 mO kmO, oI bx2 25 (dC mM kmM), dI 52 4 3 mM kmM, oI bx1 25 (dC mA kmA), dI 52 4 3 mA kmA] w1) => (show PureT _ _ _ _ _ from by
      have h9 := inclC w1 exO exE ka5 kb5 (hI.at (k := ka5) (List.mem_of_getElem? (i := 1) rfl)) (hI.at (k := kb5) (List.mem_of_getElem? (i := 0) rfl)) exO_b.1 exO_b.2.1 exO_b.2.2 exE_b.1 exE_b.2.1 exE_b.2.2 (fun _ => by decide)
      rw [oe_wrong] at h9
      exact h9)
  refine TO.loud rfl (l_call ent26 (CallT.of_pure hk45) rfl ?_)
  clear hk45
  rintro vr O' ⟨N, rfl, res, wb, wc, hin, rfl, rfl⟩
  obtain rfl := oe_incl hin
  refine TO.quiet (q_move rfl) (TO.quiet (q_extract (vs := _) rfl rfl) (TO.quiet (q_extract (vs := _) rfl rfl) (TO.quiet (q_extract (vs := _) rfl rfl) ?_)))
  refine TO.quiet (q_assign rfl) (TO.quiet (q_assign rfl) (TO.quiet (q_assign rfl) ?_))
  refine TO.sub (O' := [rowI wb wc 5 1 (byts [1]), oI bx4 25 (dC mX kmX), dI 52 4 3 mX kmX, oI bx3 25 (dC mO kmO), dI 52 4 3 mO kmO, oI bx2 25 (dC mM kmM), dI 52 4 3 mM kmM, oI bx1 25 (dC mA kmA), dI 52 4 3 mA kmA]) (by exact Sub.k (.d (.d (.k (.k (.k (.k (.k (.k (.k (.k .z))))))))))) ?_
  refine TO.nil (T.seq (T.region ?_))
  have hk50 := fun (w1 : World) (hI : Inv w [rowI wb wc 5 1 (byts [1]), oI bx4 25 (dC mX kmX), dI 52 4 3 mX kmX, oI bx3 25 (dC mO kmO), dI 52 4 3 mO kmO, oI bx2 25 (dC mM kmM), dI 52 4 3 mM kmM, oI bx1 25 (dC mA kmA), dI 52 4 3 mA kmA] w1) => oneK w1
  refine TO.loud rfl (l_call ent34 (CallT.of_pure hk50) rfl ?_)
  clear hk50
  rintro vr O' ⟨N, rfl, ka6, rfl, rfl⟩
  have hk51 := fun (w1 : World) (hI : Inv w [dI 52 4 3 exO ka6, rowI wb wc 5 1 (byts [1]), oI bx4 25 (dC mX kmX), dI 52 4 3 mX kmX, oI bx3 25 (dC mO kmO), dI 52 4 3 mO kmO, oI bx2 25 (dC mM kmM), dI 52 4 3 mM kmM, oI bx1 25 (dC mA kmA), dI 52 4 3 mA kmA] w1) => (show PureT _ _ _ _ _ from by
      have h9 := notC w1 exO ka6 (hI.at (k := ka6) (List.mem_of_getElem? (i := 0) rfl)) exO_b.1 exO_b.2.1 exO_b.2.2 (fun _ => by decide)
      rw [on_wrong, eN] at h9
      exact h9)
  refine TO.loud rfl (l_call ent14 (CallT.of_pure hk51) rfl ?_)
  clear hk51
  rintro vr O' ⟨N, rfl, kN, rfl, rfl⟩
  refine TO.quiet (q_move rfl) (TO.quiet (q_extract (vs := _) rfl rfl) (TO.quiet (q_extract (vs := _) rfl rfl) ?_))
  refine TO.loud rfl (l_alloc inf25 rfl (fun bx5 => ?_))
  refine TO.loud rfl (l_store_box (v := (dV mN kN)) (vs := (dC mN kN)) 0 inf25 rfl rfl rfl rfl rfl rfl (by simp [putL]) ?_)
  refine TO.quiet (q_assign rfl) ?_
  refine TO.sub (O' := [oI bx5 25 (dC mN kN), dI 52 4 3 mN kN, rowI wb wc 5 1 (byts [1]), oI bx4 25 (dC mX kmX), dI 52 4 3 mX kmX, oI bx3 25 (dC mO kmO), dI 52 4 3 mO kmO, oI bx2 25 (dC mM kmM), dI 52 4 3 mM kmM, oI bx1 25 (dC mA kmA), dI 52 4 3 mA kmA]) (by exact Sub.k (.k (.d (.k (.k (.k (.k (.k (.k (.k (.k (.k .z)))))))))))) ?_
  refine TO.nil (T.seq (T.region ?_))
  refine TO.quiet (q_load_boxAgg 0 Tryd.underlying25 rfl inf25 rfl rfl rfl) ?_
  have hk56 := fun (w1 : World) (hI : Inv w [oI bx5 25 (dC mN kN), dI 52 4 3 mN kN, rowI wb wc 5 1 (byts [1]), oI bx4 25 (dC mX kmX), dI 52 4 3 mX kmX, oI bx3 25 (dC mO kmO), dI 52 4 3 mO kmO, oI bx2 25 (dC mM kmM), dI 52 4 3 mM kmM, oI bx1 25 (dC mA kmA), dI 52 4 3 mA kmA] w1) => (show PureT _ _ _ _ _ from by
      have h9 := notC w1 mN kN (hI.at (k := kN) (List.mem_of_getElem? (i := 1) rfl)) bN.1 bN.2.1 bN.2.2 (fun _ => by omega)
      rw [checkD_zero.2 vN, eB] at h9
      exact h9)
  refine TO.loud rfl (l_call ent14 (CallT.of_pure hk56) rfl ?_)
  clear hk56
  rintro vr O' ⟨N, rfl, kB, rfl, rfl⟩
  refine TO.quiet (q_move rfl) (TO.quiet (q_extract (vs := _) rfl rfl) (TO.quiet (q_extract (vs := _) rfl rfl) ?_))
  refine TO.loud rfl (l_alloc inf25 rfl (fun bx6 => ?_))
  refine TO.loud rfl (l_store_box (v := (dV mB kB)) (vs := (dC mB kB)) 0 inf25 rfl rfl rfl rfl rfl rfl (by simp [putL]) ?_)
  refine TO.quiet (q_assign rfl) ?_
  refine TO.sub (O' := [oI bx6 25 (dC mB kB), dI 52 4 3 mB kB, oI bx5 25 (dC mN kN), dI 52 4 3 mN kN, rowI wb wc 5 1 (byts [1]), oI bx4 25 (dC mX kmX), dI 52 4 3 mX kmX, oI bx3 25 (dC mO kmO), dI 52 4 3 mO kmO, oI bx2 25 (dC mM kmM), dI 52 4 3 mM kmM, oI bx1 25 (dC mA kmA), dI 52 4 3 mA kmA]) (by exact Sub.rf) ?_
  refine TO.nil (T.seq ?_)
  refine T.draws [oI bx6 25 (dC mB kB), dI 52 4 3 mB kB, oI bx5 25 (dC mN kN), dI 52 4 3 mN kN, rowI wb wc 5 1 (byts [1]), oI bx4 25 (dC mX kmX), dI 52 4 3 mX kmX, oI bx3 25 (dC mO kmO), dI 52 4 3 mO kmO, oI bx2 25 (dC mM kmM), dI 52 4 3 mM kmM, oI bx1 25 (dC mA kmA), dI 52 4 3 mA kmA] [(1, 0), (0, 1), (2, 1), (3, 0), (4, 0), (5, 0), (6, 0), (7, 0)] mixed (by kernel_rfl) (by exact Sub.rf) (fun _ _ _ h => h) ?_
  refine DO.quiet rfl (q_load_boxAgg 0 Tryd.underlying25 rfl inf25 rfl rfl rfl) ?_
  have hk60 := fun (w1 : World) (hI : Inv w [oI bx6 25 (dC mB kB), dI 52 4 3 mB kB, oI bx5 25 (dC mN kN), dI 52 4 3 mN kN, rowI wb wc 5 1 (byts [1]), oI bx4 25 (dC mX kmX), dI 52 4 3 mX kmX, oI bx3 25 (dC mO kmO), dI 52 4 3 mO kmO, oI bx2 25 (dC mM kmM), dI 52 4 3 mM kmM, oI bx1 25 (dC mA kmA), dI 52 4 3 mA kmA] w1) => oneK w1
  refine DO.loud rfl rfl (l_call ent34 (CallT.of_pure hk60) rfl ?_)
  clear hk60
  rintro vr O' ⟨N, rfl, ka7, rfl, rfl⟩
  refine ⟨by exact Sub.d (.k (.k (.k (.k (.k (.k (.k (.k (.k (.k (.k (.k (.k .z))))))))))))), ?_⟩
  have hk62 := fun (w1 : World) (hI : Inv w [dI 52 4 3 exO ka7, oI bx6 25 (dC mB kB), dI 52 4 3 mB kB, oI bx5 25 (dC mN kN), dI 52 4 3 mN kN, rowI wb wc 5 1 (byts [1]), oI bx4 25 (dC mX kmX), dI 52 4 3 mX kmX, oI bx3 25 (dC mO kmO), dI 52 4 3 mO kmO, oI bx2 25 (dC mM kmM), dI 52 4 3 mM kmM, oI bx1 25 (dC mA kmA), dI 52 4 3 mA kmA] w1) => (show PureT _ _ _ _ _ from by
      have h9 := eqlC w1 exO mB ka7 kB (hI.at (k := ka7) (List.mem_of_getElem? (i := 0) rfl)) (hI.at (k := kB) (List.mem_of_getElem? (i := 2) rfl)) exO_b.1 exO_b.2.1 exO_b.2.2 bB.1 bB.2.1 bB.2.2 hsB
      rw [eE, eW] at h9
      exact h9)
  refine DO.loud rfl rfl (l_call ent27 (CallT.of_pure hk62) rfl ?_)
  clear hk62
  rintro vr O' ⟨N, rfl, rfl, rfl⟩
  refine ⟨by exact Sub.d (.k (.k (.k (.k (.k (.k (.k (.k (.k (.k (.k (.k (.k .z))))))))))))), ?_⟩
  refine DO.quiet rfl (q_move rfl) (DO.quiet rfl (q_extract (vs := _) rfl rfl) (DO.quiet rfl (q_extract (vs := _) rfl rfl) (DO.quiet rfl (q_assign rfl) ?_)))
  refine DO.quiet rfl (q_assign rfl) ?_
  refine DO.sub (O' := [oI bx6 25 (dC mB kB), dI 52 4 3 mB kB, oI bx5 25 (dC mN kN), dI 52 4 3 mN kN, rowI wb wc 5 1 (byts [1]), oI bx4 25 (dC mX kmX), dI 52 4 3 mX kmX, oI bx3 25 (dC mO kmO), dI 52 4 3 mO kmO, oI bx2 25 (dC mM kmM), dI 52 4 3 mM kmM, oI bx1 25 (dC mA kmA), dI 52 4 3 mA kmA]) (by exact Sub.d (.k (.k (.k (.k (.k (.k (.k (.k (.k (.k (.k (.k (.k .z)))))))))))))) ?_
  refine DO.done ?_
  refine T.seq (T.seq (T.region ?_))
  refine TO.quiet (q_move rfl) (TO.quiet (QT.toB (q_neq rfl rfl) (decide_eq_false (fun h => h rfl))) (TO.quiet (q_move rfl) ?_))
  refine TO.guarded rfl rfl rfl (LT.of_quiet rfl rfl (q_move rfl) ?_)
  refine TO.guarded rfl rfl rfl (LT.of_quiet rfl rfl (QT.toB (q_neq rfl rfl) (decide_eq_false (fun h => h rfl))) ?_)
  refine TO.quiet (q_pick0 rfl rfl) (TO.quiet (q_move rfl) ?_)
  refine TO.guarded rfl rfl rfl (LT.of_quiet rfl rfl (q_move rfl) ?_)
  refine TO.guarded rfl rfl rfl (LT.of_quiet rfl rfl (QT.toB (q_neq rfl rfl) (decide_eq_false (fun h => h rfl))) ?_)
  refine TO.quiet (q_pick0 rfl rfl) (TO.quiet (q_move rfl) ?_)
  refine TO.guarded rfl rfl rfl (LT.of_quiet rfl rfl (q_move rfl) ?_)
  refine TO.guarded rfl rfl rfl (LT.of_quiet rfl rfl (QT.toB (q_neq rfl rfl) (decide_eq_false (fun h => h rfl))) ?_)
  refine TO.quiet (q_pick0 rfl rfl) (TO.quiet (q_move rfl) ?_)
  refine TO.guarded rfl rfl rfl (LT.of_quiet rfl rfl (q_move rfl) ?_)
  refine TO.guarded rfl rfl rfl (LT.of_quiet rfl rfl (QT.toB (q_neq rfl rfl) (decide_eq_false (fun h => h rfl))) ?_)
  refine TO.quiet (q_pick0 rfl rfl) (TO.quiet (q_move rfl) ?_)
  refine TO.guarded rfl rfl rfl (LT.of_quiet rfl rfl (q_move rfl) ?_)
  refine TO.guarded rfl rfl rfl (LT.of_quiet rfl rfl (QT.toB (q_neq rfl rfl) (decide_eq_false (fun h => h rfl))) ?_)
  refine TO.quiet (q_pick0 rfl rfl) (TO.quiet (q_move rfl) ?_)
  refine TO.guarded rfl rfl rfl (LT.of_quiet rfl rfl (q_move rfl) ?_)
  refine TO.guarded rfl rfl rfl (LT.of_quiet rfl rfl (QT.toB (q_neq rfl rfl) (decide_eq_false (fun h => h rfl))) ?_)
  refine TO.quiet (q_pick0 rfl rfl) (TO.quiet (q_move rfl) ?_)
  refine TO.guarded rfl rfl rfl (LT.of_quiet rfl rfl (q_move rfl) ?_)
  refine TO.guarded rfl rfl rfl (LT.of_quiet rfl rfl (QT.toB (q_neq rfl rfl) (decide_eq_false (fun h => h rfl))) ?_)
  refine TO.quiet (q_pick0 rfl rfl) ?_
  refine TO.nil ?_
  refine T.cond0 rfl ?_
  refine T.skip (T.seq (T.region ?_))
  refine TO.quiet (q_load_boxAgg 11 Tryd.underlying25 rfl inf25 rfl rfl rfl) ?_
  refine TO.loud rfl (l_buildSlice (m := 2) (parts := [(0, .const (.int .u8 1)), (1, .const (.int .u8 0))]) (cs := [.int .u8 1, .int .u8 0]) Tryd.underlying35 inf5 (by decide) (by kernel_rfl) rfl (fun bx7 => ?_))
  have hk97 := fun (w1 : World) (hI : Inv w [rowI (some ⟨bx7, 0, none⟩) 2 5 1 [.int .u8 1, .int .u8 0], oI bx6 25 (dC mB kB), dI 52 4 3 mB kB, oI bx5 25 (dC mN kN), dI 52 4 3 mN kN, rowI wb wc 5 1 (byts [1]), oI bx4 25 (dC mX kmX), dI 52 4 3 mX kmX, oI bx3 25 (dC mO kmO), dI 52 4 3 mO kmO, oI bx2 25 (dC mM kmM), dI 52 4 3 mM kmM, oI bx1 25 (dC mA kmA), dI 52 4 3 mA kmA] w1) => (show PureT _ _ _ _ _ from by
      have h9 := accF w1 mA kmA (hI.at (k := kmA) (List.mem_of_getElem? (i := 13) rfl)) bA.1 bA.2.1 bA.2.2 (some ⟨bx7, 0, none⟩) 2 [1, 0] (hI.slOf (cs := byts [1, 0]) (List.mem_of_getElem? (i := 0) rfl)) (by decide) (by decide)
      rw [fA1] at h9
      exact h9)
  refine TO.loud rfl (l_call ent28 (CallT.of_pure hk97) rfl ?_)
  clear hk97
  rintro vr O' ⟨N, rfl, rfl, rfl⟩
  refine TO.quiet (q_move rfl) ?_
  refine TO.guarded rfl rfl rfl (LT.of_quiet rfl rfl (q_load_boxAgg 12 Tryd.underlying25 rfl inf25 rfl rfl rfl) ?_)
  refine TO.guarded rfl rfl rfl (l_buildSlice (m := 2) (parts := [(0, .const (.int .u8 1)), (1, .const (.int .u8 1))]) (cs := [.int .u8 1, .int .u8 1]) Tryd.underlying35 inf5 (by decide) (by kernel_rfl) rfl (fun bx8 => ?_))
  have hk101 := fun (w1 : World) (hI : Inv w [rowI (some ⟨bx8, 0, none⟩) 2 5 1 [.int .u8 1, .int .u8 1], rowI (some ⟨bx7, 0, none⟩) 2 5 1 [.int .u8 1, .int .u8 0], oI bx6 25 (dC mB kB), dI 52 4 3 mB kB, oI bx5 25 (dC mN kN), dI 52 4 3 mN kN, rowI wb wc 5 1 (byts [1]), oI bx4 25 (dC mX kmX), dI 52 4 3 mX kmX, oI bx3 25 (dC mO kmO), dI 52 4 3 mO kmO, oI bx2 25 (dC mM kmM), dI 52 4 3 mM kmM, oI bx1 25 (dC mA kmA), dI 52 4 3 mA kmA] w1) => (show PureT _ _ _ _ _ from by
      have h9 := accF w1 mA kmA (hI.at (k := kmA) (List.mem_of_getElem? (i := 14) rfl)) bA.1 bA.2.1 bA.2.2 (some ⟨bx8, 0, none⟩) 2 [1, 1] (hI.slOf (cs := byts [1, 1]) (List.mem_of_getElem? (i := 0) rfl)) (by decide) (by decide)
      rw [fA2] at h9
      exact h9)
  refine TO.guarded rfl rfl rfl (l_call ent28 (CallT.of_pure hk101) rfl ?_)
  clear hk101
  rintro vr O' ⟨N, rfl, rfl, rfl⟩
  refine TO.quiet (q_pick1 rfl rfl) (TO.quiet (q_move rfl) ?_)
  refine TO.guarded rfl rfl rfl (LT.of_quiet rfl rfl (q_load_boxAgg 11 Tryd.underlying25 rfl inf25 rfl rfl rfl) ?_)
  refine TO.guarded rfl rfl rfl (l_build1 (v := .int .u8 1) Tryd.underlying35 inf5 rfl rfl rfl (fun bx9 => ?_))
  have hk106 := fun (w1 : World) (hI : Inv w [rowI (some ⟨bx9, 0, none⟩) 1 5 1 [.int .u8 1], rowI (some ⟨bx8, 0, none⟩) 2 5 1 [.int .u8 1, .int .u8 1], rowI (some ⟨bx7, 0, none⟩) 2 5 1 [.int .u8 1, .int .u8 0], oI bx6 25 (dC mB kB), dI 52 4 3 mB kB, oI bx5 25 (dC mN kN), dI 52 4 3 mN kN, rowI wb wc 5 1 (byts [1]), oI bx4 25 (dC mX kmX), dI 52 4 3 mX kmX, oI bx3 25 (dC mO kmO), dI 52 4 3 mO kmO, oI bx2 25 (dC mM kmM), dI 52 4 3 mM kmM, oI bx1 25 (dC mA kmA), dI 52 4 3 mA kmA] w1) => (show PureT _ _ _ _ _ from by
      have h9 := accF w1 mM kmM (hI.at (k := kmM) (List.mem_of_getElem? (i := 13) rfl)) bM.1 bM.2.1 bM.2.2 (some ⟨bx9, 0, none⟩) 1 [1] (hI.slOf (cs := byts [1]) (List.mem_of_getElem? (i := 0) rfl)) (by decide) (by decide)
      rw [fM] at h9
      exact h9)
  refine TO.guarded rfl rfl rfl (l_call ent28 (CallT.of_pure hk106) rfl ?_)
  clear hk106
  rintro vr O' ⟨N, rfl, rfl, rfl⟩
  refine TO.quiet (q_pick1 rfl rfl) (TO.quiet (q_move rfl) ?_)
  refine TO.guarded rfl rfl rfl (LT.of_quiet rfl rfl (q_load_boxAgg 10 Tryd.underlying25 rfl inf25 rfl rfl rfl) ?_)
  have hk110 := fun (w1 : World) (hI : Inv w [rowI (some ⟨bx9, 0, none⟩) 1 5 1 [.int .u8 1], rowI (some ⟨bx8, 0, none⟩) 2 5 1 [.int .u8 1, .int .u8 1], rowI (some ⟨bx7, 0, none⟩) 2 5 1 [.int .u8 1, .int .u8 0], oI bx6 25 (dC mB kB), dI 52 4 3 mB kB, oI bx5 25 (dC mN kN), dI 52 4 3 mN kN, rowI wb wc 5 1 (byts [1]), oI bx4 25 (dC mX kmX), dI 52 4 3 mX kmX, oI bx3 25 (dC mO kmO), dI 52 4 3 mO kmO, oI bx2 25 (dC mM kmM), dI 52 4 3 mM kmM, oI bx1 25 (dC mA kmA), dI 52 4 3 mA kmA] w1) => (show PureT _ _ _ _ _ from by
      have h9 := accF w1 mO kmO (hI.at (k := kmO) (List.mem_of_getElem? (i := 11) rfl)) bO.1 bO.2.1 bO.2.2 none 0 [] (Sl.nil _ none) (by decide) (by decide)
      rw [fO] at h9
      exact h9)
  refine TO.guarded rfl rfl rfl (l_call ent28 (CallT.of_pure hk110) rfl ?_)
  clear hk110
  rintro vr O' ⟨N, rfl, rfl, rfl⟩
  refine TO.quiet (q_pick1 rfl rfl) (TO.quiet (q_move rfl) ?_)
  refine TO.guarded rfl rfl rfl (LT.of_quiet rfl rfl (q_load_boxAgg 8 Tryd.underlying25 rfl inf25 rfl rfl rfl) ?_)
  have hk114 := fun (w1 : World) (hI : Inv w [rowI (some ⟨bx9, 0, none⟩) 1 5 1 [.int .u8 1], rowI (some ⟨bx8, 0, none⟩) 2 5 1 [.int .u8 1, .int .u8 1], rowI (some ⟨bx7, 0, none⟩) 2 5 1 [.int .u8 1, .int .u8 0], oI bx6 25 (dC mB kB), dI 52 4 3 mB kB, oI bx5 25 (dC mN kN), dI 52 4 3 mN kN, rowI wb wc 5 1 (byts [1]), oI bx4 25 (dC mX kmX), dI 52 4 3 mX kmX, oI bx3 25 (dC mO kmO), dI 52 4 3 mO kmO, oI bx2 25 (dC mM kmM), dI 52 4 3 mM kmM, oI bx1 25 (dC mA kmA), dI 52 4 3 mA kmA] w1) => (show PureT _ _ _ _ _ from by
      have h9 := accF w1 mX kmX (hI.at (k := kmX) (List.mem_of_getElem? (i := 9) rfl)) bX.1 bX.2.1 bX.2.2 none 0 [] (Sl.nil _ none) (by decide) (by decide)
      rw [fX] at h9
      exact h9)
  refine TO.guarded rfl rfl rfl (l_call ent28 (CallT.of_pure hk114) rfl ?_)
  clear hk114
  rintro vr O' ⟨N, rfl, rfl, rfl⟩
  refine TO.quiet (q_pick1 rfl rfl) (TO.quiet (q_move rfl) ?_)
  refine TO.guarded rfl rfl rfl (LT.of_quiet rfl rfl (q_load_boxAgg 14 Tryd.underlying25 rfl inf25 rfl rfl rfl) ?_)
  have hk118 := fun (w1 : World) (hI : Inv w [rowI (some ⟨bx9, 0, none⟩) 1 5 1 [.int .u8 1], rowI (some ⟨bx8, 0, none⟩) 2 5 1 [.int .u8 1, .int .u8 1], rowI (some ⟨bx7, 0, none⟩) 2 5 1 [.int .u8 1, .int .u8 0], oI bx6 25 (dC mB kB), dI 52 4 3 mB kB, oI bx5 25 (dC mN kN), dI 52 4 3 mN kN, rowI wb wc 5 1 (byts [1]), oI bx4 25 (dC mX kmX), dI 52 4 3 mX kmX, oI bx3 25 (dC mO kmO), dI 52 4 3 mO kmO, oI bx2 25 (dC mM kmM), dI 52 4 3 mM kmM, oI bx1 25 (dC mA kmA), dI 52 4 3 mA kmA] w1) => (show PureT _ _ _ _ _ from by
      have h9 := accF w1 mA kmA (hI.at (k := kmA) (List.mem_of_getElem? (i := 15) rfl)) bA.1 bA.2.1 bA.2.2 none 0 [] (Sl.nil _ none) (by decide) (by decide)
      rw [fA3] at h9
      exact h9)
  refine TO.guarded rfl rfl rfl (l_call ent28 (CallT.of_pure hk118) rfl ?_)
  clear hk118
  rintro vr O' ⟨N, rfl, rfl, rfl⟩
  refine TO.guarded rfl rfl rfl (LT.of_quiet rfl rfl (q_not rfl) ?_)
  refine TO.quiet (q_pick1 rfl rfl) (TO.quiet (q_move rfl) ?_)
  refine TO.guarded rfl rfl rfl (LT.of_quiet rfl rfl (q_move rfl) ?_)
  refine TO.guarded rfl rfl rfl (l_build1 (v := .int .u8 1) Tryd.underlying35 inf5 rfl rfl rfl (fun bx10 => ?_))
  have hk124 := fun (w1 : World) (hI : Inv w [rowI (some ⟨bx10, 0, none⟩) 1 5 1 [.int .u8 1], rowI (some ⟨bx9, 0, none⟩) 1 5 1 [.int .u8 1], rowI (some ⟨bx8, 0, none⟩) 2 5 1 [.int .u8 1, .int .u8 1], rowI (some ⟨bx7, 0, none⟩) 2 5 1 [.int .u8 1, .int .u8 0], oI bx6 25 (dC mB kB), dI 52 4 3 mB kB, oI bx5 25 (dC mN kN), dI 52 4 3 mN kN, rowI wb wc 5 1 (byts [1]), oI bx4 25 (dC mX kmX), dI 52 4 3 mX kmX, oI bx3 25 (dC mO kmO), dI 52 4 3 mO kmO, oI bx2 25 (dC mM kmM), dI 52 4 3 mM kmM, oI bx1 25 (dC mA kmA), dI 52 4 3 mA kmA] w1) => (show PureT _ _ _ _ _ from by
      have h9 := equalBytes w1 wb (some ⟨bx10, 0, none⟩) wc 1 [1] [1] (hI.slOf (List.mem_of_getElem? (i := 8) rfl)) (hI.slOf (cs := byts [1]) (List.mem_of_getElem? (i := 0) rfl)) (by decide)
      exact h9)
  refine TO.guarded rfl rfl rfl (l_call ent33 (CallT.of_pure hk124) rfl ?_)
  clear hk124
  rintro vr O' ⟨N, rfl, rfl, rfl⟩
  refine TO.quiet (q_pick1 rfl rfl) (TO.quiet (q_move rfl) ?_)
  refine TO.guarded rfl rfl rfl (LT.of_quiet rfl rfl (q_move rfl) ?_)
  refine TO.guarded rfl rfl rfl (LT.of_quiet rfl rfl (q_not rfl) ?_)
  refine TO.quiet (q_pick1 rfl rfl) (TO.quiet (q_move rfl) ?_)
  refine TO.guarded rfl rfl rfl (LT.of_quiet rfl rfl (q_move rfl) ?_)
  refine TO.quiet (q_pick1 rfl rfl) (TO.quiet (q_assign rfl) ?_)
  refine TO.nil (T.ret (Res.drop ?_))
  refine Res.one (.bool true) Tryd.results11 rfl ?_
  exact ⟨[], Sub.z, rfl, rfl⟩
end Go.Proofs.YtdaapdamcekkgaaDoor


namespace Go.Lx
open Go.RowKit
set_option linter.unusedVariables false
structure Sh (d : DFA) : Prop where
  n8 : d.next.length ≤ 8
  f40 : d.final.length ≤ 40
  r100 : ∀ r ∈ d.next, r.length ≤ 100
theorem Sh.b1 {d : DFA} (h : Sh d) : d.next.length < 9223372036854775807 := by have := h.n8; omega
theorem Sh.b2 {d : DFA} (h : Sh d) : ∀ r ∈ d.next, r.length < 9223372036854775807 := fun r hr => by have := h.r100 r hr; omega
theorem Sh.b3 {d : DFA} (h : Sh d) : d.final.length < 9223372036854775807 := by have := h.f40; omega
theorem Sh.mul {a b : DFA} (ha : Sh a) (hb : Sh b) : a.next.length * b.next.length ≤ 64 := Nat.mul_le_mul ha.n8 hb.n8
theorem Sh.small {a b : DFA} (ha : Sh a) (hb : Sh b) : wrongD a b = 0 → a.next.length * b.next.length ≤ 4096 ∧ ∀ f, (order (prodD f a b)).length < 100 := fun hw => by
  obtain ⟨va, vb, hv⟩ := wrongD_zero.1 hw
  have := ha.mul hb
  exact ⟨by omega, fun f => Nat.lt_of_le_of_lt (pr_order_le va vb hv) (by omega)⟩
theorem HasL.small {f : Bool → Bool → Bool} {v : Int} {n m : Nat} {a b : DFA} {p q : List Nat → Bool} (ha : HasL v n a p) (hb : HasL v m b q) (h : n * m < 100) : (order (prodD f a b)).length < 100 :=
  Nat.lt_of_le_of_lt (pr_order_le ha.valid hb.valid (by rw [ha.vars, hb.vars])) (Nat.lt_of_le_of_lt (Nat.mul_le_mul ha.len hb.len) h)
theorem HasL.wrong {v : Int} {n m : Nat} {a b : DFA} {p q : List Nat → Bool} (ha : HasL v n a p) (hb : HasL v m b q) : wrongD a b = 0 := wrongD_zero.2 ⟨ha.valid, hb.valid, by rw [ha.vars, hb.vars]⟩
theorem HasL.mulLe {v : Int} {n m : Nat} {a b : DFA} {p q : List Nat → Bool} (ha : HasL v n a p) (hb : HasL v m b q) {N : Nat} (h : n * m ≤ N) : a.next.length * b.next.length ≤ N := Nat.le_trans (Nat.mul_le_mul ha.len hb.len) h
theorem HasL.le {v : Int} {n m : Nat} {a : DFA} {p : List Nat → Bool} (ha : HasL v n a p) (h : a.next.length ≤ m) : HasL v m a p := ⟨ha.valid, h, ha.vars, ha.acc⟩
end Go.Lx


namespace Go.Proofs.YtdaapdamcekkgaaDoor
open Go.Lx Go.RowKit
set_option linter.unusedVariables false
set_option linter.unusedSimpArgs false
theorem equalDFA0 (w : World) (d e : DFA) (nb1 nb2 fb1 fb2 : Option Addr) (nc1 nc2 fc1 fc2 : Nat) (vs us : List Value) (h1 : DfaAt w d nb1 vs fb1) (h2 : DfaAt w e nb2 us fb2) (hb : d.next.length < 9223372036854775807) (hbr : ∀ r ∈ d.next, r.length < 9223372036854775807) (hbf : d.final.length < 9223372036854775807) :
    PureT Tryd.prog 15 [.agg (dfaCells d nb1 nc1 fb1 fc1).toArray, .agg (dfaCells e nb2 nc2 fb2 fc2).toArray] w fun v N => v = .bool (decide (d = e)) ∧ N = [] :=
  (CallT.none (equalDFA w d e nb1 nb2 fb1 fb2 nc1 nc2 fc1 fc2 vs us h1 h2 hb hbr hbf)).mono fun v N ⟨h1, O2, h2, _⟩ => ⟨h2, h1⟩
theorem equalDFAT (w : World) (d : DFA) (nb1 nb2 fb1 fb2 : Option Addr) (nc1 nc2 fc1 fc2 : Nat) (vs us : List Value) (h1 : DfaAt w d nb1 vs fb1) (h2 : DfaAt w d nb2 us fb2) (hb : d.next.length < 9223372036854775807) (hbr : ∀ r ∈ d.next, r.length < 9223372036854775807) (hbf : d.final.length < 9223372036854775807) :
    PureT Tryd.prog 15 [.agg (dfaCells d nb1 nc1 fb1 fc1).toArray, .agg (dfaCells d nb2 nc2 fb2 fc2).toArray] w fun v N => v = .bool true ∧ N = [] :=
  (equalDFA0 w d d nb1 nb2 fb1 fb2 nc1 nc2 fc1 fc2 vs us h1 h2 hb hbr hbf).mono fun v N ⟨h1, h2⟩ => ⟨h1.trans (congrArg Value.bool (decide_eq_true rfl)), h2⟩
end Go.Proofs.YtdaapdamcekkgaaDoor


namespace Go.Proofs.YtdaapdamcekkgaaDoor
open Go.Lx Go.RowKit
set_option linter.unusedVariables false
set_option linter.unusedSimpArgs false
theorem equalK (w : World) (d : DFA) (j k : DK) (h1 : At w d j) (h2 : At w d k) (hb : d.next.length < 9223372036854775807) (hbr : ∀ r ∈ d.next, r.length < 9223372036854775807) (hbf : d.final.length < 9223372036854775807) :
    PureT Tryd.prog 15 [dV d j, dV d k] w fun v N => v = .bool true ∧ N = [] := equalDFAT w d j.nb k.nb j.fb k.fb j.nc k.nc j.fc k.fc (vals j.qs) (vals k.qs) h1 h2 hb hbr hbf
end Go.Proofs.YtdaapdamcekkgaaDoor

