/- Contracts of functions of the program (P3, P4, CoreO, J4, PjN, J7, PjR, J8, PjG, PjM, PjF, PjH, PjI, JF, JG, P5, Over, P8, JH, PjS, JI, PjU, JJ, JK, J6, J9, JA, JB, J5): what each call answers and that it leaves memory as it was. Conditions: those each theorem names. -/
import Derived.Test.YtohkmggbfcnapaaGreatDoorCoreK
import Derived.Test.YtohkmggbfcnapaaGreatDoorWtK
import Derived.Test.YtohkmggbfcnapaaGreatDoorP2
import Derived.Test.YtohkmggbfcnapaaGreatDoorMin
set_option linter.unusedSectionVars false
set_option linter.unusedSimpArgs false
set_option linter.unusedVariables false
set_option linter.unnecessarySimpa false
set_option maxHeartbeats 8000000
set_option maxRecDepth 20000
namespace Go.Proofs.YtohkmggbfcnapaaGreatDoor
open Go.Lx Go.RowKit _root_.Go.Proofs.Tryz
theorem minK (w : World) [Tab Tryz.prog w] (d : DFA) (k : DK) (h : At w d k) (hb : d.next.length < 9223372036854775807) (hbr : ∀ r ∈ d.next, r.length < 9223372036854775807) (hbf : d.final.length < 9223372036854775807) (hn : Valid d → d.next.length < 10000) :
    PureT Tryz.prog 34 [dV d k] w fun v N => ∃ k' : DK, v = .tuple #[dV (minV d) k', .int .i64 (checkD d : Int)] ∧ N = [dI 37 4 3 (minV d) k'] :=
  CallT.dk (g := fun x => .tuple #[x, .int .i64 (checkD d : Int)]) (minA w d k.nb k.fb k.nc k.fc (vals k.qs) h hb hbr hbf hn)
theorem minKE (w : World) [Tab Tryz.prog w] (d : DFA) (k : DK) (h : At w d k) (hv : Valid d) (hn : d.next.length < 10000) {M : DFA} (hM : minD d = M) :
    PureT Tryz.prog 34 [dV d k] w fun v N => ∃ k' : DK, v = .tuple #[dV M k', .int .i64 0] ∧ N = [dI 37 4 3 M k'] := by
  have h1 := minK w d k h (by have := hv.n4; omega) hv.bound (by have := hv.fin; have := hv.n4; omega) (fun _ => hn)
  rw [minV_valid hv, hM, checkD_zero.2 hv] at h1
  exact h1
theorem notF (base : World) (x y : Bool) : CallT Tryz.prog base 69 [.bool x, .bool y] [] (fun v O' => v = .bool (notB x y) ∧ O' = []) := by
  refine CallT.enter func69 rfl ntmps69 rfl ?_
  refine T.s (T.rg ?_)
  refine TO.qa rfl ?_
  refine TO.nl (T.s (T.rg ?_))
  refine TO.qm rfl (TO.q (q_not rfl) (TO.qa rfl ?_))
  refine TO.nl (T.ret ?_)
  refine Res.one (.bool (!x)) Tryz.results69 rfl ?_
  cases x <;> cases y <;> first | exact ⟨rfl, rfl⟩ | (exfalso; simp_all; done) | simp_all [andB, orB, xorB, minusB, notB]
set_option maxRecDepth 20000 in
theorem notFV (base : World) (x y : Bool) : CallV Tryz.prog base (.func (.func 69) #[] #[]) [.bool x, .bool y] [] (fun v O' => v = .bool (notB x y) ∧ O' = []) := CallV.of_fn (first := []) (caps := []) ent69 (notF base x y)
theorem combineBad (w : World) [Tab Tryz.prog w] (a b : DFA) (j k : DK) (ha : At w a j) (hb : At w b k) (haa : a.next.length < 9223372036854775807) (haar : ∀ r ∈ a.next, r.length < 9223372036854775807) (haaf : a.final.length < 9223372036854775807) (hbb : b.next.length < 9223372036854775807) (hbbr : ∀ r ∈ b.next, r.length < 9223372036854775807) (hbbf : b.final.length < 9223372036854775807) (g : Nat) (he : wrongD a b ≠ 0) :
    PureT Tryz.prog 68 [dV a j, dV b k, .func (.func g) #[] #[]] w fun v N => v = .tuple #[dV noD ⟨none, 0, none, 0, []⟩, .int .i64 (wrongD a b : Int)] ∧ N = [] := by
  refine CallT.enter func68 rfl ntmps68 rfl ?_
  refine T.s (T.rg ?_)
  refine TO.l rfl (l_box (v := (dV a j)) (cs := (dC a j)) rfl rfl (fun bx1 => ?_))
  refine TO.l rfl (l_box (v := (dV b k)) (cs := (dC b k)) rfl rfl (fun bx2 => ?_))
  refine TO.l rfl (l_box (v := (.func (.func g) #[] #[])) (cs := [(.func (.func g) #[] #[])]) rfl rfl (fun bx3 => ?_))
  refine TO.l rfl (l_alloc inf25 rfl (fun bx4 => ?_))
  refine TO.l rfl (l_alloc inf29 rfl (fun bx5 => ?_))
  refine TO.nl (T.s (T.rg ?_))
  refine TO.q (q_la 4 underlying25 rfl inf25 rfl rfl rfl) (TO.q (q_la 3 underlying25 rfl inf25 rfl rfl rfl) ?_)
  have hk16 := fun (w1 : World) (hI : Inv w [oI bx5 29 [(.int .i64 0)], oI bx4 25 [(.int .i64 0), (.int .i64 0), (.slice none 0 0), (.slice none 0 0)], oI bx3 92 [(.func (.func g) #[] #[])], oI bx2 25 (dC b k), oI bx1 25 (dC a j)] w1) => (haveI := tbz hI; beginBad w1 a b j k (hI.atB ha) (hI.atB hb) haa haar haaf hbb hbbr hbbf he)
  refine TO.l rfl (l_call ent93 (CallT.op hk16) rfl ?_)
  clear hk16
  rintro vr O' ⟨N, rfl, rfl, rfl⟩
  refine TO.qm rfl (TO.q (q_extract (vs := _) rfl rfl) (TO.q (q_extract (vs := _) rfl rfl) ?_))
  refine TO.l rfl (l_alloc inf112 rfl (fun bx6 => ?_))
  refine TO.l rfl (l_sb (v := .pointer none) (vs := [(.pointer none)]) 0 inf112 rfl rfl rfl rfl rfl rfl (by simp [putL]) ?_)
  refine TO.qa rfl ?_
  refine TO.nl (T.s (T.s (T.rg ?_)))
  refine TO.qm rfl (TO.q (q_neq rfl rfl) ?_)
  refine TO.nl ?_
  refine T.cond1 (congrArg Value.bool (decide_eq_true (by omega))) ?_
  refine T.s (T.rg ?_)
  refine TO.q (q_build plan25 inf25 rfl) (TO.qm rfl ?_)
  refine TO.l rfl (l_sb (v := (.agg #[(.int .i64 0), (.int .i64 0), (.slice none 0 0), (.slice none 0 0)])) (vs := [(.int .i64 0), (.int .i64 0), (.slice none 0 0), (.slice none 0 0)]) 2 inf25 rfl rfl rfl rfl rfl rfl (by simp [putL]) ?_)
  refine TO.l rfl (l_sb (v := .int .i64 (wrongD a b : Int)) (vs := [(.int .i64 (wrongD a b : Int))]) 1 inf29 rfl rfl rfl rfl rfl rfl (by simp [putL]) ?_)
  refine TO.nl (T.ret (Res.drop ?_))
  refine Res.cell2a (i := 2) (j := 1) Tryz.results68 underlying25 rfl inf25 underlying29 rfl rfl rfl rfl rfl rfl ?_
  exact ⟨[], Sub.z, rfl, rfl⟩
theorem combineW (w : World) [Tab Tryz.prog w] (a b : DFA) (j k : DK) (ha : At w a j) (hb : At w b k) (va : Valid a) (vb : Valid b) (hv : a.vars = b.vars) (f : Bool → Bool → Bool) (g : Nat) (hf : ∀ (base : World) (x y : Bool), CallV Tryz.prog base (.func (.func g) #[] #[]) [.bool x, .bool y] [] (fun v O' => v = .bool (f x y) ∧ O' = [])) (hN8 : (order (prodD f a b)).length ≤ 4096) :
    PureT Tryz.prog 68 [dV a j, dV b k, .func (.func g) #[] #[]] w fun v N => ∃ k' : DK, v = .tuple #[dV (opD f a b) k', .int .i64 0] ∧ N = [dI 37 4 3 (opD f a b) k'] := by
  refine CallT.enter func68 rfl ntmps68 rfl ?_
  have h4 : a.next.length * b.next.length ≤ 4096 * 4096 := Nat.mul_le_mul va.n4 vb.n4
  obtain ⟨L, hL⟩ : ∃ L, 2 ^ a.vars.toNat = L := ⟨_, rfl⟩
  have hw : L ≤ 64 := by rw [← hL]; exact va.width
  refine T.s (T.rg ?_)
  refine TO.l rfl (l_box (v := (dV a j)) (cs := (dC a j)) rfl rfl (fun z1 => ?_))
  refine TO.l rfl (l_box (v := (dV b k)) (cs := (dC b k)) rfl rfl (fun z2 => ?_))
  refine TO.l rfl (l_box (v := (.func (.func g) #[] #[])) (cs := [(.func (.func g) #[] #[])]) rfl rfl (fun z3 => ?_))
  refine TO.l rfl (l_alloc inf25 rfl (fun z4 => ?_))
  refine TO.l rfl (l_alloc inf29 rfl (fun z5 => ?_))
  refine TO.nl (T.s (T.rg ?_))
  refine TO.q (q_la 4 underlying25 rfl inf25 rfl rfl rfl) (TO.q (q_la 3 underlying25 rfl inf25 rfl rfl rfl) ?_)
  have hk16 := fun (w1 : World) (hI : Inv w [oI z5 29 [(.int .i64 0)], oI z4 25 [(.int .i64 0), (.int .i64 0), (.slice none 0 0), (.slice none 0 0)], oI z3 92 [(.func (.func g) #[] #[])], oI z2 25 (dC b k), oI z1 25 (dC a j)] w1) => (haveI := tbz hI; beginOk w1 a b j k (hI.atB ha) (hI.atB hb) va vb hv)
  refine TO.l rfl (l_call ent93 (CallT.op hk16) rfl ?_)
  clear hk16
  rintro vr O' ⟨N, rfl, bp, qb, m, rfl, rfl⟩
  refine TO.qm rfl (TO.q (q_extract (vs := _) rfl rfl) (TO.q (q_extract (vs := _) rfl rfl) ?_))
  refine TO.l rfl (l_alloc inf112 rfl (fun z6 => ?_))
  refine TO.l rfl (l_sb (v := (.pointer (some ⟨bp, 0, none⟩))) (vs := [(.pointer (some ⟨bp, 0, none⟩))]) 0 inf112 rfl rfl rfl rfl rfl rfl (by simp [putL]) ?_)
  refine TO.qa rfl ?_
  refine TO.nl (T.s (T.s (T.rg ?_)))
  refine TO.qm rfl (TO.q (q_neq rfl rfl) ?_)
  refine TO.nl ?_
  refine T.cond0 rfl ?_
  refine T.skip (T.s (T.rg ?_))
  refine TO.q (q_fa underlying25 rfl inf3 rfl rfl) (TO.q (q_lb 8 underlying3 rfl rfl rfl rfl) (TO.q (q_build (cs := [(.int .i64 a.vars), (.int .i64 0), (.slice none 0 0), (.slice none 0 0)]) plan25 inf25 (by kernel_rfl)) ?_))
  refine TO.l rfl (l_alloc inf25 rfl (fun z7 => ?_))
  refine TO.l rfl (l_sb (v := (.agg #[(.int .i64 a.vars), (.int .i64 0), (.slice none 0 0), (.slice none 0 0)])) (vs := [(.int .i64 a.vars), (.int .i64 0), (.slice none 0 0), (.slice none 0 0)]) 0 inf25 rfl rfl rfl rfl rfl rfl (by simp [putL]) ?_)
  refine TO.nl (T.s (T.s ?_))
  refine T.nilRow 4 1 ?_
  refine T.nilRow 37 1 ?_
  refine T.rg ?_
  refine TO.q (q_lb 3 underlying112 rfl rfl rfl rfl) ?_
  have hk27 := fun (w1 : World) (hI : Inv w [rowI none 0 37 1 (vals []), rowI none 0 4 1 (bools []), oI z7 25 [(.int .i64 a.vars), (.int .i64 0), (.slice none 0 0), (.slice none 0 0)], oI z6 112 [(.pointer (some ⟨bp, 0, none⟩))], oI bp 123 [(.int .i64 a.vars), (.int .i64 a.start), (.slice j.nb a.next.length j.nc), (.slice j.fb a.final.length j.fc), (.int .i64 b.vars), (.int .i64 b.start), (.slice k.nb b.next.length k.nc), (.slice k.fb b.final.length k.fc), (.slice (some ⟨qb, 0, none⟩) ([a.start.toNat * b.next.length + b.start.toNat].length) 1), (.map (some m))], rowI (some ⟨qb, 0, none⟩) 1 119 2 (prs b.next.length [a.start.toNat * b.next.length + b.start.toNat]), mapI pairV (fun n : Nat => Value.int .i64 (n : Int)) m (pmap b.next.length [a.start.toNat * b.next.length + b.start.toNat]), oI z5 29 [(.int .i64 0)], oI z4 25 [(.int .i64 0), (.int .i64 0), (.slice none 0 0), (.slice none 0 0)], oI z3 92 [(.func (.func g) #[] #[])], oI z2 25 (dC b k), oI z1 25 (dC a j)] w1) => (haveI := tbz hI; pairsF w1 bp)
  refine TO.l rfl (l_call ent94 (CallT.op hk27) rfl ?_)
  clear hk27
  rintro vr O' ⟨N, rfl, bP, rfl, rfl⟩
  refine TO.nl (T.block ?_)
  refine T.rangeFunc (first := []) (caps := [(.pointer (some ⟨bP, 0, none⟩))]) rfl ent116 (fun yl yq yhq => ?_)
  refine CallT.mono (CallT.sub (O' := oI bP 112 [(.pointer (some ⟨bp, 0, none⟩))] :: oI bp 123 [(.int .i64 a.vars), (.int .i64 a.start), (.slice j.nb a.next.length j.nc), (.slice j.fb a.final.length j.fc), (.int .i64 b.vars), (.int .i64 b.start), (.slice k.nb b.next.length k.nc), (.slice k.fb b.final.length k.fc), (.slice (some ⟨qb, 0, none⟩) ([a.start.toNat * b.next.length + b.start.toNat].length) 1), (.map (some m))] :: rowI (some ⟨qb, 0, none⟩) 1 119 2 (prs b.next.length [a.start.toNat * b.next.length + b.start.toNat]) :: mapI pairV (fun n : Nat => Value.int .i64 (n : Int)) m (pmap b.next.length [a.start.toNat * b.next.length + b.start.toNat]) :: (objI yl (lp yq none) :: [rowI none 0 37 1 (vals []), rowI none 0 4 1 (bools []), oI z7 25 [(.int .i64 a.vars), (.int .i64 0), (.slice none 0 0), (.slice none 0 0)], oI z6 112 [(.pointer (some ⟨bp, 0, none⟩))], oI z5 29 [(.int .i64 0)], oI z4 25 [(.int .i64 0), (.int .i64 0), (.slice none 0 0), (.slice none 0 0)], oI z3 92 [(.func (.func g) #[] #[])], oI z2 25 (dC b k), oI z1 25 (dC a j)])) (Sub.pick [1, 5, 5, 5, 0, 0, 0, 0, 0, 0, 0, 0, 0, 0] rfl) (pairs1 w f a b j k ha hb va vb hv L hL bP bp m (some ⟨qb, 0, none⟩) 1 (.func (.yield yl) #[] #[]) (fun i O => ∃ (nbm fbm : Option Addr) (ncm fcm n1 n2 : Nat) (qs : List Rec) (fs : List Bool), O = objI yl (lp yq none) :: ([rowI nbm ncm 37 1 (vals qs), rowI fbm fcm 4 1 (bools fs), oI z7 25 [(.int .i64 a.vars), (.int .i64 0), (.slice nbm n1 ncm), (.slice fbm n2 fcm)], oI z6 112 [(.pointer (some ⟨bp, 0, none⟩))], oI z5 29 [(.int .i64 0)], oI z4 25 [(.int .i64 0), (.int .i64 0), (.slice none 0 0), (.slice none 0 0)], oI z3 92 [(.func (.func g) #[] #[])], oI z2 25 (dC b k), oI z1 25 (dC a j)] ++ (itms 3 qs)) ∧ n1 = i ∧ n2 = i ∧ qs.length = i ∧ fs.length = i ∧ nums qs = ((order (prodD f a b)).take i).map (rnR (prodD f a b)) ∧ fs = ((order (prodD f a b)).take i).map (finN (prodD f a b))) (fun _ => False) ?_ _ ?_)) ?_
  · intro i o qb qc rb O hq hJ
    obtain ⟨nbm, fbm, ncm, fcm, n1, n2, qs, fs, rfl, hn1, hn2, hql, hfl, hqs, hfs⟩ := hJ
    refine CallV.yield yhq rfl rfl ?_
    refine T.sub (O' := ([rowI nbm ncm 37 1 (vals qs), rowI fbm fcm 4 1 (bools fs), oI z7 25 [(.int .i64 a.vars), (.int .i64 0), (.slice nbm n1 ncm), (.slice fbm n2 fcm)], oI z6 112 [(.pointer (some ⟨bp, 0, none⟩))], oI z5 29 [(.int .i64 0)], oI z4 25 [(.int .i64 0), (.int .i64 0), (.slice none 0 0), (.slice none 0 0)], oI z3 92 [(.func (.func g) #[] #[])], oI z2 25 (dC b k), oI z1 25 (dC a j), oI bp 123 [(.int .i64 a.vars), (.int .i64 a.start), (.slice j.nb a.next.length j.nc), (.slice j.fb a.final.length j.fc), (.int .i64 b.vars), (.int .i64 b.start), (.slice k.nb b.next.length k.nc), (.slice k.fb b.final.length k.fc), (.slice qb ((bfsN (prodD f a b) (i + 1)).length) qc), (.map (some m))], rowI qb qc 119 2 (prs b.next.length (bfsN (prodD f a b) (i + 1))), mapI pairV (fun n : Nat => Value.int .i64 (n : Int)) m (pmap b.next.length (bfsN (prodD f a b) (i + 1))), rowI (some ⟨rb, 0, none⟩) L 3 1 (ints (rnR (prodD f a b) o))] ++ itms 3 qs)) (by exact Sub.swap3 [rowI nbm ncm 37 1 (vals qs), rowI fbm fcm 4 1 (bools fs), oI z7 25 [(.int .i64 a.vars), (.int .i64 0), (.slice nbm n1 ncm), (.slice fbm n2 fcm)], oI z6 112 [(.pointer (some ⟨bp, 0, none⟩))], oI z5 29 [(.int .i64 0)], oI z4 25 [(.int .i64 0), (.int .i64 0), (.slice none 0 0), (.slice none 0 0)], oI z3 92 [(.func (.func g) #[] #[])], oI z2 25 (dC b k), oI z1 25 (dC a j)] [oI bp 123 [(.int .i64 a.vars), (.int .i64 a.start), (.slice j.nb a.next.length j.nc), (.slice j.fb a.final.length j.fc), (.int .i64 b.vars), (.int .i64 b.start), (.slice k.nb b.next.length k.nc), (.slice k.fb b.final.length k.fc), (.slice qb ((bfsN (prodD f a b) (i + 1)).length) qc), (.map (some m))], rowI qb qc 119 2 (prs b.next.length (bfsN (prodD f a b) (i + 1))), mapI pairV (fun n : Nat => Value.int .i64 (n : Int)) m (pmap b.next.length (bfsN (prodD f a b) (i + 1))), rowI (some ⟨rb, 0, none⟩) L 3 1 (ints (rnR (prodD f a b) o))] (itms 3 qs)) ?_
    have hbl := pr_bfs_len (f := f) va vb hv i
    have hil := (List.getElem?_eq_some_iff.1 hq).1
    have ho := (pr_bfs_ok (f := f) va vb hv i).2 o (List.mem_of_getElem? hq)
    obtain ⟨hs, ht⟩ := pr_split ho
    have hoa := bfs_at hq (by rw [prod_len]; omega)
    have hfa : (bools a.final)[o / b.next.length]? = some (.bool (finN a (o / b.next.length))) := by
      have hl : o / b.next.length < a.final.length := by rw [va.fin]; exact hs
      rw [bools_get hl]; unfold finN; rw [List.getD_eq_getElem?_getD, List.getElem?_eq_getElem hl]; rfl
    have hfb : (bools b.final)[o % b.next.length]? = some (.bool (finN b (o % b.next.length))) := by
      have hl : o % b.next.length < b.final.length := by rw [vb.fin]; exact ht
      rw [bools_get hl]; unfold finN; rw [List.getD_eq_getElem?_getD, List.getElem?_eq_getElem hl]; rfl
    have hrl : (rnR (prodD f a b) o).length = L := by unfold rnR; rw [List.length_map, renRow_length]; exact hL
    have hvq : vals (qs ++ [⟨some ⟨rb, 0, none⟩, L, rnR (prodD f a b) o⟩]) = vals qs ++ [.slice (some ⟨rb, 0, none⟩) L L] := by simp [Rec.val, hrl]
    have hbq : bools (fs ++ [f (finN a (o / b.next.length)) (finN b (o % b.next.length))]) = bools fs ++ [.bool (f (finN a (o / b.next.length)) (finN b (o % b.next.length)))] := by simp
    have hbl2 := pr_bfs_len (f := f) va vb hv (i + 1)
    have hlt9 : (bfsN (prodD f a b) (i + 1)).length ≤ 4096 := Nat.le_trans (bfsN_prefix (prodD f a b) (i + 1) (prodD f a b).next.length (by rw [prod_len]; omega)).length_le hN8
    refine T.s (T.rg ?_)
    refine TO.l rfl (l_alloc inf119 rfl (fun z8 => ?_))
    refine TO.l rfl (l_sb (v := (.agg #[.int .i64 ((o / b.next.length : Nat) : Int), .int .i64 ((o % b.next.length : Nat) : Int)])) (vs := [.int .i64 ((o / b.next.length : Nat) : Int), .int .i64 ((o % b.next.length : Nat) : Int)]) 0 inf119 rfl rfl rfl rfl rfl rfl (by simp [putL]) ?_)
    refine TO.nl (T.rg ?_)
    refine TO.qa rfl ?_
    refine TO.nl (T.block (T.s (T.s (T.rg ?_))))
    refine TO.q (q_lb 4 underlying112 rfl rfl rfl rfl) (TO.q (q_nilCheck rfl) (TO.q (q_fa underlying123 rfl inf120 rfl rfl) (TO.q (q_lb 10 underlying120 rfl rfl rfl rfl) ?_)))
    refine TO.q (q_len underlying120 rfl) (TO.q (QT.toB (q_gtr rfl rfl) (decide_eq_false (by omega))) ?_)
    refine TO.nl ?_
    refine T.cond0 rfl ?_
    refine T.skip ?_
    refine T.draws [oI z8 119 [.int .i64 ((o / b.next.length : Nat) : Int), .int .i64 ((o % b.next.length : Nat) : Int)], oI z7 25 [(.int .i64 a.vars), (.int .i64 0), (.slice nbm n1 ncm), (.slice fbm n2 fcm)], oI z6 112 [(.pointer (some ⟨bp, 0, none⟩))], oI z5 29 [(.int .i64 0)], oI z4 25 [(.int .i64 0), (.int .i64 0), (.slice none 0 0), (.slice none 0 0)], oI z3 92 [(.func (.func g) #[] #[])], oI z2 25 (dC b k), oI z1 25 (dC a j), oI bp 123 [(.int .i64 a.vars), (.int .i64 a.start), (.slice j.nb a.next.length j.nc), (.slice j.fb a.final.length j.fc), (.int .i64 b.vars), (.int .i64 b.start), (.slice k.nb b.next.length k.nc), (.slice k.fb b.final.length k.fc), (.slice qb ((bfsN (prodD f a b) (i + 1)).length) qc), (.map (some m))]] [(0, 0), (1, 0), (2, 0), (5, 0), (6, 0), (7, 0), (8, 0), (9, 0), (10, 0), (11, 0), (12, 0), (13, 0), (14, 0), (15, 0), (16, 0), (17, 0), (18, 0), (19, 0), (3, 1), (4, 1), (23, 0), (20, 1), (21, 1), (22, 1), (24, 2), (25, 2), (26, 2)] mixed (drawF_ok (by kernel_rfl)) (by exact Sub.k (.d (.d (.k (.k (.k (.k (.k (.k (.k (.k .z))))))))))) (fun _ _ _ h => h) ?_
    refine DO.q rfl (q_fa underlying25 rfl inf22 rfl rfl) (DO.q rfl (q_lb 1 underlying22 rfl rfl rfl rfl) (DO.q rfl (q_move rfl) (DO.q rfl (q_fa underlying25 rfl inf23 rfl rfl) ?_)))
    refine DO.q rfl (q_lb 1 underlying23 rfl rfl rfl rfl) (DO.q rfl (q_lb 5 underlying92 rfl rfl rfl rfl) (DO.q rfl (q_fa underlying25 rfl inf23 rfl rfl) (DO.q rfl (q_lb 7 underlying23 rfl rfl rfl rfl) ?_)))
    refine DO.q rfl (q_fa underlying119 rfl inf3 rfl rfl) (DO.q rfl (q_lb 0 underlying3 rfl rfl rfl rfl) (DO.q rfl (q_ix (i := (o / b.next.length)) underlying23 inf4 rfl rfl (Sl.o ha.final) (by rw [va.fin]; exact hs) (by rw [List.length_map, va.fin]; exact hs)) (DO.q rfl (q_ld underlying4 rfl rfl (Sl.o ha.final) hfa) ?_)))
    refine DO.q rfl (q_fa underlying25 rfl inf23 rfl rfl) (DO.q rfl (q_lb 6 underlying23 rfl rfl rfl rfl) (DO.q rfl (q_fa underlying119 rfl inf3 rfl rfl) (DO.q rfl (q_lb 0 underlying3 rfl rfl rfl rfl) ?_)))
    refine DO.q rfl (q_ix (i := (o % b.next.length)) underlying23 inf4 rfl rfl (Sl.o hb.final) (by rw [vb.fin]; exact ht) (by rw [List.length_map, vb.fin]; exact ht)) (DO.q rfl (q_ld underlying4 rfl rfl (Sl.o hb.final) hfb) ?_)
    refine DO.loud rfl rfl (l_build1 (v := (.slice (some ⟨rb, 0, none⟩) L L)) underlying22 inf37 rfl rfl rfl (fun z9 => ⟨by exact Sub.d (.k (.d (.d (.k (.k (.k (.k (.k (.k (.k (.k .z))))))))))), ?_⟩))
    refine DO.loud rfl rfl (l_append 2 underlying22 underlying22 inf37 rfl rfl rfl rfl (by simp; omega) (by decide) (Src.row (j := 0) rfl (by simp)) (by simp [oneB]) (by omega) (by decide) (by decide) (fun z10 zc11 => ⟨by exact Sub.d (.k (.d (.d (.k (.k (.k (.k (.k (.k (.k (.k .z))))))))))), ?_⟩))
    refine DO.q rfl (q_fa underlying25 rfl inf22 rfl rfl) ?_
    have hk57 := CallV.under (B := ([rowI (some ⟨z9, 0, none⟩) 1 37 1 [(.slice (some ⟨rb, 0, none⟩) L L)], oI z8 119 [.int .i64 ((o / b.next.length : Nat) : Int), .int .i64 ((o % b.next.length : Nat) : Int)], rowI z10 zc11 37 1 ((vals qs) ++ [(.slice (some ⟨rb, 0, none⟩) L L)]), rowI fbm fcm 4 1 (bools fs), oI z7 25 [(.int .i64 a.vars), (.int .i64 0), (.slice nbm n1 ncm), (.slice fbm n2 fcm)], oI z6 112 [(.pointer (some ⟨bp, 0, none⟩))], oI z5 29 [(.int .i64 0)], oI z4 25 [(.int .i64 0), (.int .i64 0), (.slice none 0 0), (.slice none 0 0)], oI z3 92 [(.func (.func g) #[] #[])], oI z2 25 (dC b k), oI z1 25 (dC a j), oI bp 123 [(.int .i64 a.vars), (.int .i64 a.start), (.slice j.nb a.next.length j.nc), (.slice j.fb a.final.length j.fc), (.int .i64 b.vars), (.int .i64 b.start), (.slice k.nb b.next.length k.nc), (.slice k.fb b.final.length k.fc), (.slice qb ((bfsN (prodD f a b) (i + 1)).length) qc), (.map (some m))], rowI qb qc 119 2 (prs b.next.length (bfsN (prodD f a b) (i + 1))), mapI pairV (fun n : Nat => Value.int .i64 (n : Int)) m (pmap b.next.length (bfsN (prodD f a b) (i + 1))), rowI (some ⟨rb, 0, none⟩) L 3 1 (ints (rnR (prodD f a b) o))] ++ itms 3 qs)) (O := ([rowI (some ⟨z9, 0, none⟩) 1 37 1 [(.slice (some ⟨rb, 0, none⟩) L L)], oI z8 119 [.int .i64 ((o / b.next.length : Nat) : Int), .int .i64 ((o % b.next.length : Nat) : Int)], rowI z10 zc11 37 1 ((vals qs) ++ [(.slice (some ⟨rb, 0, none⟩) L L)]), rowI fbm fcm 4 1 (bools fs), oI z7 25 [(.int .i64 a.vars), (.int .i64 0), (.slice nbm n1 ncm), (.slice fbm n2 fcm)], oI z6 112 [(.pointer (some ⟨bp, 0, none⟩))], oI z5 29 [(.int .i64 0)], oI z4 25 [(.int .i64 0), (.int .i64 0), (.slice none 0 0), (.slice none 0 0)], oI z3 92 [(.func (.func g) #[] #[])], oI z2 25 (dC b k), oI z1 25 (dC a j), oI bp 123 [(.int .i64 a.vars), (.int .i64 a.start), (.slice j.nb a.next.length j.nc), (.slice j.fb a.final.length j.fc), (.int .i64 b.vars), (.int .i64 b.start), (.slice k.nb b.next.length k.nc), (.slice k.fb b.final.length k.fc), (.slice qb ((bfsN (prodD f a b) (i + 1)).length) qc), (.map (some m))], rowI qb qc 119 2 (prs b.next.length (bfsN (prodD f a b) (i + 1))), mapI pairV (fun n : Nat => Value.int .i64 (n : Int)) m (pmap b.next.length (bfsN (prodD f a b) (i + 1))), rowI (some ⟨rb, 0, none⟩) L 3 1 (ints (rnR (prodD f a b) o))] ++ (itms 3 qs))) (hf w (finN a (o / b.next.length)) (finN b (o % b.next.length))) (by exact Sub.rf)
    refine DO.loud rfl rfl (l_callG hk57 rfl rfl ?_)
    clear hk57
    rintro vr O' ⟨A1, rfl, rfl, rfl⟩
    refine ⟨by exact Sub.d (.k (.d (.d (.k (.k (.k (.k (.k (.k (.k (.k .z))))))))))), ?_⟩
    refine DO.loud rfl rfl (l_build1 (v := .bool (f (finN a (o / b.next.length)) (finN b (o % b.next.length)))) underlying23 inf4 rfl rfl rfl (fun z12 => ⟨by exact Sub.d (.d (.k (.d (.d (.k (.k (.k (.k (.k (.k (.k (.k .z)))))))))))), ?_⟩))
    refine DO.loud rfl rfl (l_append 4 underlying23 underlying23 inf4 rfl rfl rfl rfl (by simp; omega) (by decide) (Src.row (j := 0) rfl (by simp)) (by simp [oneB]) (by omega) (by decide) (by decide) (fun z13 zc14 => ⟨by exact Sub.d (.d (.k (.d (.d (.k (.k (.k (.k (.k (.k (.k (.k .z)))))))))))), ?_⟩))
    refine DO.last rfl rfl (l_sb (v := (.slice z10 (n1 + 1) zc11)) (vs := [(.slice z10 (n1 + 1) zc11)]) 5 inf22 rfl rfl rfl rfl rfl rfl (by simp [putL]) ?_)
    refine DO.last rfl rfl (LT.oq rfl rfl (q_fa underlying25 rfl inf23 rfl rfl) ?_)
    refine DO.last rfl rfl (l_sb (v := (.slice z13 (n2 + 1) zc14)) (vs := [(.slice z13 (n2 + 1) zc14)]) 5 inf23 rfl rfl rfl rfl rfl rfl (by simp [putL]) ?_)
    refine DO.sub (O' := ([rowI z10 zc11 37 1 ((vals qs) ++ [(.slice (some ⟨rb, 0, none⟩) L L)]), rowI z13 zc14 4 1 ((bools fs) ++ [.bool (f (finN a (o / b.next.length)) (finN b (o % b.next.length)))]), oI z7 25 [(.int .i64 a.vars), (.int .i64 0), (.slice z10 (n1 + 1) zc11), (.slice z13 (n2 + 1) zc14)], oI z6 112 [(.pointer (some ⟨bp, 0, none⟩))], oI z5 29 [(.int .i64 0)], oI z4 25 [(.int .i64 0), (.int .i64 0), (.slice none 0 0), (.slice none 0 0)], oI z3 92 [(.func (.func g) #[] #[])], oI z2 25 (dC b k), oI z1 25 (dC a j), rowI (some ⟨rb, 0, none⟩) L 3 1 (ints (rnR (prodD f a b) o)), oI bp 123 [(.int .i64 a.vars), (.int .i64 a.start), (.slice j.nb a.next.length j.nc), (.slice j.fb a.final.length j.fc), (.int .i64 b.vars), (.int .i64 b.start), (.slice k.nb b.next.length k.nc), (.slice k.fb b.final.length k.fc), (.slice qb ((bfsN (prodD f a b) (i + 1)).length) qc), (.map (some m))], rowI qb qc 119 2 (prs b.next.length (bfsN (prodD f a b) (i + 1))), mapI pairV (fun n : Nat => Value.int .i64 (n : Int)) m (pmap b.next.length (bfsN (prodD f a b) (i + 1)))] ++ itms 3 qs)) (by exact Sub.d (.d (.d (.k (.k (.k (.k (.k (.k (.k (.k (.k (.pull [oI bp 123 [(.int .i64 a.vars), (.int .i64 a.start), (.slice j.nb a.next.length j.nc), (.slice j.fb a.final.length j.fc), (.int .i64 b.vars), (.int .i64 b.start), (.slice k.nb b.next.length k.nc), (.slice k.fb b.final.length k.fc), (.slice qb ((bfsN (prodD f a b) (i + 1)).length) qc), (.map (some m))], rowI qb qc 119 2 (prs b.next.length (bfsN (prodD f a b) (i + 1))), mapI pairV (fun n : Nat => Value.int .i64 (n : Int)) m (pmap b.next.length (bfsN (prodD f a b) (i + 1)))] _ (.k (.k (.k .rf)))))))))))))))) ?_
    refine DO.sub (O' := (([rowI z10 zc11 37 1 (vals (qs ++ [⟨some ⟨rb, 0, none⟩, L, rnR (prodD f a b) o⟩])), rowI z13 zc14 4 1 (bools (fs ++ [f (finN a (o / b.next.length)) (finN b (o % b.next.length))])), oI z7 25 [(.int .i64 a.vars), (.int .i64 0), (.slice z10 (n1 + 1) zc11), (.slice z13 (n2 + 1) zc14)], oI z6 112 [(.pointer (some ⟨bp, 0, none⟩))], oI z5 29 [(.int .i64 0)], oI z4 25 [(.int .i64 0), (.int .i64 0), (.slice none 0 0), (.slice none 0 0)], oI z3 92 [(.func (.func g) #[] #[])], oI z2 25 (dC b k), oI z1 25 (dC a j)] ++ itms 3 (qs ++ [⟨some ⟨rb, 0, none⟩, L, rnR (prodD f a b) o⟩])) ++ [oI bp 123 [(.int .i64 a.vars), (.int .i64 a.start), (.slice j.nb a.next.length j.nc), (.slice j.fb a.final.length j.fc), (.int .i64 b.vars), (.int .i64 b.start), (.slice k.nb b.next.length k.nc), (.slice k.fb b.final.length k.fc), (.slice qb ((bfsN (prodD f a b) (i + 1)).length) qc), (.map (some m))], rowI qb qc 119 2 (prs b.next.length (bfsN (prodD f a b) (i + 1))), mapI pairV (fun n : Nat => Value.int .i64 (n : Int)) m (pmap b.next.length (bfsN (prodD f a b) (i + 1)))])) (by rw [hvq, hbq]; exact Sub.fold [rowI z10 zc11 37 1 ((vals qs) ++ [(.slice (some ⟨rb, 0, none⟩) L L)]), rowI z13 zc14 4 1 ((bools fs) ++ [.bool (f (finN a (o / b.next.length)) (finN b (o % b.next.length)))]), oI z7 25 [(.int .i64 a.vars), (.int .i64 0), (.slice z10 (n1 + 1) zc11), (.slice z13 (n2 + 1) zc14)], oI z6 112 [(.pointer (some ⟨bp, 0, none⟩))], oI z5 29 [(.int .i64 0)], oI z4 25 [(.int .i64 0), (.int .i64 0), (.slice none 0 0), (.slice none 0 0)], oI z3 92 [(.func (.func g) #[] #[])], oI z2 25 (dC b k), oI z1 25 (dC a j)] (rowI (some ⟨rb, 0, none⟩) L 3 1 (ints (rnR (prodD f a b) o))) [oI bp 123 [(.int .i64 a.vars), (.int .i64 a.start), (.slice j.nb a.next.length j.nc), (.slice j.fb a.final.length j.fc), (.int .i64 b.vars), (.int .i64 b.start), (.slice k.nb b.next.length k.nc), (.slice k.fb b.final.length k.fc), (.slice qb ((bfsN (prodD f a b) (i + 1)).length) qc), (.map (some m))], rowI qb qc 119 2 (prs b.next.length (bfsN (prodD f a b) (i + 1))), mapI pairV (fun n : Nat => Value.int .i64 (n : Int)) m (pmap b.next.length (bfsN (prodD f a b) (i + 1)))] (itms 3 qs) _ (itms_snoc 3 qs ⟨some ⟨rb, 0, none⟩, L, rnR (prodD f a b) o⟩)) ?_
    refine DO.done ?_
    refine .inl ⟨rfl, _, rfl, z10, z13, zc11, zc14, n1 + 1, n2 + 1, qs ++ [⟨some ⟨rb, 0, none⟩, L, rnR (prodD f a b) o⟩], fs ++ [f (finN a (o / b.next.length)) (finN b (o % b.next.length))], rfl, by omega, by omega, by simp [hql], by simp [hfl], ?_, ?_⟩
    · rw [take_at hoa, List.map_append]
      show List.map Rec.xs (qs ++ [_]) = _
      rw [List.map_append, show List.map Rec.xs qs = _ from hqs]; rfl
    · rw [take_at hoa, List.map_append, hfs, ← pr_fin_at (f := f) ho]; rfl
  · refine ⟨none, none, 0, 0, 0, 0, [], [], rfl, rfl, rfl, rfl, rfl, by simp, by simp⟩
  rintro v O' (⟨N, qbF, qcF, O2, rfl, hN, nbm, fbm, ncm, fcm, n1, n2, qs, fs, rfl, hn1, hn2, hql, hfl, hqs, hfs⟩ | hF)
  rotate_left
  · exact hF.elim
  refine ⟨none, _, rfl, ?_⟩
  refine T.s ?_
  refine T.sub (O' := ([rowI nbm ncm 37 1 (vals qs), rowI fbm fcm 4 1 (bools fs), oI z7 25 [(.int .i64 a.vars), (.int .i64 0), (.slice nbm n1 ncm), (.slice fbm n2 fcm)], oI z6 112 [(.pointer (some ⟨bp, 0, none⟩))], oI z5 29 [(.int .i64 0)], oI z4 25 [(.int .i64 0), (.int .i64 0), (.slice none 0 0), (.slice none 0 0)], oI z3 92 [(.func (.func g) #[] #[])], oI z2 25 (dC b k), oI z1 25 (dC a j)] ++ itms 3 qs)) (Sub.of (List.sublist_append_left _ _)) ?_
  have hor := pr_stop va vb hv hN
  have hol : (order (prodD f a b)).length = N := by rw [hor]; exact hN
  have e1 : nums qs = (renum (prodD f a b)).next := by rw [hqs, ← hol, List.take_length]; exact (renum_rows _).symm
  have e2 : fs = (renum (prodD f a b)).final := by rw [hfs, ← hol, List.take_length]; rfl
  obtain rfl : n1 = (renum (prodD f a b)).next.length := by rw [renum_rows, List.length_map]; omega
  obtain rfl : n2 = (renum (prodD f a b)).final.length := by rw [renum_fins, List.length_map]; omega
  subst e2
  have vD := prod_val (f := f) va.toVal vb.toVal hv
  have vR := renum_fit vD hN8
  refine T.sub (O' := ([rowI nbm ncm 37 1 (vals qs), rowI fbm fcm 4 1 (bools (renum (prodD f a b)).final), oI z7 25 [(.int .i64 (renum (prodD f a b)).vars), (.int .i64 (renum (prodD f a b)).start), (.slice nbm ((renum (prodD f a b)).next.length) ncm), (.slice fbm ((renum (prodD f a b)).final.length) fcm)], oI z6 112 [(.pointer (some ⟨bp, 0, none⟩))], oI z5 29 [(.int .i64 0)], oI z4 25 [(.int .i64 0), (.int .i64 0), (.slice none 0 0), (.slice none 0 0)], oI z3 92 [(.func (.func g) #[] #[])], oI z2 25 (dC b k), oI z1 25 (dC a j)] ++ itms 3 qs)) (by exact Sub.rf) ?_
  refine T.rg ?_
  refine TO.q (q_la 2 underlying25 rfl inf25 rfl rfl rfl) ?_
  have hk63 := fun (w1 : World) (hI : Inv w ([rowI nbm ncm 37 1 (vals qs), rowI fbm fcm 4 1 (bools (renum (prodD f a b)).final), oI z7 25 [(.int .i64 (renum (prodD f a b)).vars), (.int .i64 (renum (prodD f a b)).start), (.slice nbm ((renum (prodD f a b)).next.length) ncm), (.slice fbm ((renum (prodD f a b)).final.length) fcm)], oI z6 112 [(.pointer (some ⟨bp, 0, none⟩))], oI z5 29 [(.int .i64 0)], oI z4 25 [(.int .i64 0), (.int .i64 0), (.slice none 0 0), (.slice none 0 0)], oI z3 92 [(.func (.func g) #[] #[])], oI z2 25 (dC b k), oI z1 25 (dC a j)] ++ (itms 3 qs)) w1) => (haveI := tbz hI; minKE w1 (renum (prodD f a b)) ⟨nbm, ncm, fbm, fcm, qs⟩ (show At w1 (renum (prodD f a b)) ⟨nbm, ncm, fbm, fcm, qs⟩ from ⟨hI.slOf (mG 0 rfl), e1 ▸ hI.recs (fun q hq => List.mem_append_right _ (List.mem_map_of_mem (f := Rec.itm 3) hq)), hI.slOf (mG 1 rfl)⟩) vR (by rw [renum_rows, List.length_map]; exact Nat.lt_of_le_of_lt hN8 (by decide)) (minD_renum vD))
  refine TO.l rfl (l_call ent34 (CallT.op hk63) rfl ?_)
  clear hk63
  rintro vr O' ⟨N9, rfl, k', rfl, rfl⟩
  refine TO.q (q_extract (vs := _) rfl rfl) (TO.q (q_extract (vs := _) rfl rfl) ?_)
  refine TO.l rfl (l_sb (v := (dV (minD (prodD f a b)) k')) (vs := (dC (minD (prodD f a b)) k')) 6 inf25 rfl rfl rfl rfl rfl rfl (by simp [putL]) ?_)
  refine TO.l rfl (l_sb (v := .int .i64 0) (vs := [(.int .i64 0)]) 5 inf29 rfl rfl rfl rfl rfl rfl (by simp [putL]) ?_)
  refine TO.nl (T.ret (Res.drop ?_))
  refine Res.cell2a (i := 6) (j := 5) Tryz.results68 underlying25 rfl inf25 underlying29 rfl rfl rfl rfl rfl rfl ?_
  exact ⟨[dI 37 4 3 (minD (prodD f a b)) k'], (by exact Sub.k .z), k', rfl, rfl⟩
end Go.Proofs.YtohkmggbfcnapaaGreatDoor


namespace Go.Proofs.YtohkmggbfcnapaaGreatDoor
open Go.Lx Go.RowKit _root_.Go.Proofs.Tryz
set_option maxRecDepth 20000 in
theorem combineA (w : World) [Tab Tryz.prog w] (a b : DFA) (j k : DK) (ha : At w a j) (hb : At w b k) (haa : a.next.length < 9223372036854775807) (haar : ∀ r ∈ a.next, r.length < 9223372036854775807) (haaf : a.final.length < 9223372036854775807) (hbb : b.next.length < 9223372036854775807) (hbbr : ∀ r ∈ b.next, r.length < 9223372036854775807) (hbbf : b.final.length < 9223372036854775807) (f : Bool → Bool → Bool) (g : Nat) (hf : ∀ (base : World) (x y : Bool), CallV Tryz.prog base (.func (.func g) #[] #[]) [.bool x, .bool y] [] (fun v O' => v = .bool (f x y) ∧ O' = [])) (hN : wrongD a b = 0 → (order (prodD f a b)).length ≤ 4096) :
    PureT Tryz.prog 68 [dV a j, dV b k, .func (.func g) #[] #[]] w fun v N => ∃ k' : DK, v = .tuple #[dV (opV f a b) k', .int .i64 (wrongD a b : Int)] ∧ N = [dI 37 4 3 (opV f a b) k'] := by
  by_cases he : wrongD a b = 0
  · obtain ⟨va, vb, hv⟩ := wrongD_zero.1 he
    rw [opV_ok he, he]
    exact combineW w a b j k ha hb va vb hv f g hf (hN he)
  · rw [opV_bad he]
    refine CallT.dk (g := fun x => .tuple #[x, .int .i64 (wrongD a b : Int)]) ((CallT.addNil 37 1 (CallT.addNil 4 1 (combineBad w a b j k ha hb haa haar haaf hbb hbbr hbbf g he))).mono ?_)
    rintro v N ⟨O2, rfl, O3, rfl, rfl, rfl⟩
    exact ⟨none, 0, none, 0, [], rfl, rfl, rfl⟩
theorem notC0 (w : World) [Tab Tryz.prog w] (a : DFA) (j : DK) (ha : At w a j) (haa : a.next.length < 9223372036854775807) (haar : ∀ r ∈ a.next, r.length < 9223372036854775807) (haaf : a.final.length < 9223372036854775807) (hN : wrongD a a = 0 → (order (prodD notB a a)).length ≤ 4096) :
    PureT Tryz.prog 31 [dV a j] w fun v N => ∃ k' : DK, v = .tuple #[dV (opV notB a a) k', .int .i64 (wrongD a a : Int)] ∧ N = [dI 37 4 3 (opV notB a a) k'] := by
  refine CallT.enter func31 rfl ntmps31 rfl ?_
  refine T.s (T.rg ?_)
  refine TO.l rfl (l_box (v := (dV a j)) (cs := (dC a j)) rfl rfl (fun bx1 => ?_))
  refine TO.l rfl (l_alloc inf25 rfl (fun bx2 => ?_))
  refine TO.qa rfl ?_
  refine TO.nl (T.s (T.rg ?_))
  refine TO.q (q_la 1 underlying25 rfl inf25 rfl rfl rfl) (TO.q (q_la 1 underlying25 rfl inf25 rfl rfl rfl) ?_)
  have hk6 := fun (w1 : World) (hI : Inv w [oI bx2 25 [(.int .i64 0), (.int .i64 0), (.slice none 0 0), (.slice none 0 0)], oI bx1 25 (dC a j)] w1) => (haveI := tbz hI; combineA w1 a a j j (hI.atB ha) (hI.atB ha) haa haar haaf haa haar haaf notB 69 notFV hN)
  refine TO.l rfl (l_call ent68 (CallT.op hk6) rfl ?_)
  clear hk6
  rintro vr O' ⟨N, rfl, k', rfl, rfl⟩
  refine TO.q (q_extract (vs := _) rfl rfl) (TO.q (q_extract (vs := _) rfl rfl) ?_)
  refine TO.l rfl (l_sb (v := (dV (opV notB a a) k')) (vs := (dC (opV notB a a) k')) 1 inf25 rfl rfl rfl rfl rfl rfl (by simp [putL]) ?_)
  refine TO.qa rfl ?_
  refine TO.nl (T.ret (Res.drop ?_))
  refine Res.cell1b (.int .i64 (wrongD a a : Int)) (i := 1) Tryz.results31 underlying25 rfl inf25 rfl rfl rfl rfl ?_
  exact ⟨[dI 37 4 3 (opV notB a a) k'], (by exact Sub.k .z), k', rfl, rfl⟩
theorem notC (w : World) [Tab Tryz.prog w] (a : DFA) (j : DK) (ha : At w a j) (haa : a.next.length < 9223372036854775807) (haar : ∀ r ∈ a.next, r.length < 9223372036854775807) (haaf : a.final.length < 9223372036854775807) :
    PureT Tryz.prog 31 [dV a j] w fun v N => ∃ k' : DK, v = .tuple #[dV (opV notB a a) k', .int .i64 (checkD a : Int)] ∧ N = [dI 37 4 3 (opV notB a a) k'] := by
  have h := notC0 w a j ha haa haar haaf (fun hw => by
    have hv := (wrongD_zero.1 hw).1
    exact Nat.le_trans (pr_order_factW hv.toVal hv.toVal rfl hv.toVal rfl (Det.refl a) (Det.refl a)) hv.n4)
  rwa [wrongD_self] at h
end Go.Proofs.YtohkmggbfcnapaaGreatDoor


namespace Go.Lx
open Go.RowKit
section
variable {P : Program} {base : World} {ρ : Env} {O : List Item} {dst : Option Nat} {t : TypeId} {p : String} {af : Array Edge} {g : Option (Nat × Bool)}
theorem q_andNot8 {x y : Operand} {T U : TypeId} {a b : Nat} (hx : ev ρ x = .int .u8 (a : Int)) (hy : ev ρ y = .int .u8 (b : Int)) (ha : a < 256) (hb : b < 256) : QT P base ⟨dst, .binOp .andNot T x y U, t, p, af, g⟩ ρ O (.int .u8 ((a &&& (255 - b) : Nat) : Int)) := fun w _ => by
  have h1 : (a &&& (255 - b)) < 2 ^ IntKind.u8.bits := Nat.lt_of_le_of_lt (Nat.and_le_left (n := a) (m := 255 - b)) ha
  have h2 := UK.u8.wrap h1
  have ha' : a < 2 ^ IntKind.u8.bits := ha
  have hb' : b < 2 ^ IntKind.u8.bits := hb
  have h3 : (BitVec.ofInt IntKind.u8.bits (a : Int) &&& ~~~BitVec.ofInt IntKind.u8.bits (b : Int)).toNat = a &&& (255 - b) := by
    rw [BitVec.toNat_and, BitVec.toNat_not, ofInt_nat ha', ofInt_nat hb']; rfl
  simp only [execOp, hx, hy, eqGuard, binOp, Op.intBits, h3, h2]
  simp
end
end Go.Lx


namespace Go.Proofs.YtohkmggbfcnapaaGreatDoor
open Go.Lx Go.RowKit _root_.Go.Proofs.Tryz
theorem variMk (w : World) [Tab Tryz.prog w] (x v : Nat) :
    PureT Tryz.prog 52 [.int .u8 ((x : Nat) : Int), .int .i64 ((v : Nat) : Int)] w fun r N => ∃ xb vb : Nat, r = (.func (.func 87) #[] #[(.pointer (some ⟨vb, 0, none⟩)), (.pointer (some ⟨xb, 0, none⟩))]) ∧ N = [oI vb 3 [(.int .i64 ((v : Nat) : Int))], oI xb 5 [(.int .u8 ((x : Nat) : Int))]] := by
  refine CallT.enter func52 rfl ntmps52 rfl ?_
  refine T.s (T.rg ?_)
  refine TO.l rfl (l_box (v := .int .u8 ((x : Nat) : Int)) (cs := [(.int .u8 ((x : Nat) : Int))]) rfl rfl (fun z1 => ?_))
  refine TO.l rfl (l_box (v := .int .i64 ((v : Nat) : Int)) (cs := [(.int .i64 ((v : Nat) : Int))]) rfl rfl (fun z2 => ?_))
  refine TO.qa rfl ?_
  refine TO.nl (T.s (T.rg ?_))
  refine TO.q (q_makeFunc) (TO.qa rfl ?_)
  refine TO.nl (T.ret ?_)
  refine Res.one (.func (.func 87) #[] #[(.pointer (some ⟨z2, 0, none⟩)), (.pointer (some ⟨z1, 0, none⟩))]) Tryz.results52 rfl ?_
  exact ⟨z1, z2, rfl, rfl⟩
theorem variF (base : World) [Tab Tryz.prog base] (xb vb v x : Nat) (hv : v < 6) (hx : x < 64) (yv : Value) (J : Nat → List Lx.Item → Prop) (Q : List Lx.Item → Prop)
    (hy : ∀ (i y : Nat) (O : List Lx.Item), (i = 0 ∧ y = c0 v x ∨ i = 1 ∧ y = c1 v x) → J i O → CallV Tryz.prog base yv [.int .u8 ((y : Nat) : Int)] O (fun r O' => (r = .bool true ∧ J (i + 1) O') ∨ (r = .bool false ∧ Q O')))
    (O : List Lx.Item) (h0 : J 0 O) :
    CallT Tryz.prog base 87 [yv, (.pointer (some ⟨vb, 0, none⟩)), (.pointer (some ⟨xb, 0, none⟩))] ([oI vb 3 [(.int .i64 ((v : Nat) : Int))], oI xb 5 [(.int .u8 ((x : Nat) : Int))]] ++ O) (fun _ O' => J 2 O' ∨ Q O') := by
  refine CallT.enter func87 rfl ntmps87 rfl ?_
  have hp : 2 ^ v ≤ 2 ^ 5 := Nat.pow_le_pow_right (by decide) (by omega)
  refine T.s (T.rg ?_)
  refine TO.q (q_lb 0 underlying3 rfl rfl rfl rfl) (TO.q (QT.cast (q_shlU (a := 1) (b := v) .u8 rfl rfl (by simp only [IntKind.bits]; omega) (by simp only [IntKind.bits]; omega)) (v' := .int .u8 ((2 ^ v : Nat) : Int)) (by rw [Nat.one_mul])) (TO.qa rfl ?_))
  refine TO.nl (T.s (T.rg ?_))
  refine TO.qm rfl (TO.q (q_lb 1 underlying5 rfl rfl rfl rfl) (TO.qm rfl (TO.q (QT.cast (q_andNot8 (a := x) (b := 2 ^ v) rfl rfl (by omega) (by omega)) (v' := .int .u8 ((c0 v x : Nat) : Int)) (by rw [c0_and v hv x hx])) ?_)))
  have hk11 := CallV.under (B := [oI vb 3 [(.int .i64 ((v : Nat) : Int))], oI xb 5 [(.int .u8 ((x : Nat) : Int))]]) (O := ([oI vb 3 [(.int .i64 ((v : Nat) : Int))], oI xb 5 [(.int .u8 ((x : Nat) : Int))]] ++ O)) (hy 0 _ O (.inl ⟨rfl, rfl⟩) h0) (Sub.ca [])
  refine TO.l rfl (l_callG hk11 rfl rfl ?_)
  clear hk11
  rintro vr O' ⟨A1, rfl, ⟨rfl, hJ1⟩ | ⟨rfl, hQ1⟩⟩
  · refine TO.nl ?_
    refine T.cond1 rfl ?_
    refine T.rg ?_
    refine TO.sub (O' := ([oI vb 3 [(.int .i64 ((v : Nat) : Int))], oI xb 5 [(.int .u8 ((x : Nat) : Int))]] ++ A1)) (Sub.ca []) ?_
    refine TO.qm rfl (TO.q (q_lb 1 underlying5 rfl rfl rfl rfl) (TO.qm rfl (TO.q (QT.cast (q_or (a := x) (b := 2 ^ v) .u8 rfl rfl (by simp only [IntKind.bits]; omega) (by simp only [IntKind.bits]; omega)) (v' := .int .u8 ((c1 v x : Nat) : Int)) (by rw [c1_or v hv x hx])) ?_)))
    have hk16 := CallV.under (B := [oI vb 3 [(.int .i64 ((v : Nat) : Int))], oI xb 5 [(.int .u8 ((x : Nat) : Int))]]) (O := ([oI vb 3 [(.int .i64 ((v : Nat) : Int))], oI xb 5 [(.int .u8 ((x : Nat) : Int))]] ++ A1)) (hy 1 _ A1 (.inr ⟨rfl, rfl⟩) hJ1) (Sub.ca [])
    refine TO.l rfl (l_callG hk16 rfl rfl ?_)
    clear hk16
    rintro vr O' ⟨A2, rfl, ⟨rfl, hJ2⟩ | ⟨rfl, hQ2⟩⟩
    · refine TO.nl ?_
      refine Res.drop ?_
      refine Res.zero Tryz.results87 ?_
      exact ⟨A2, Sub.cnt [oI vb 3 [(.int .i64 ((v : Nat) : Int))], oI xb 5 [(.int .u8 ((x : Nat) : Int))]] (by intro a; simp only [itms, oI, List.set_cons_zero, List.set_cons_succ, putL, List.cons_append, List.nil_append, List.append_nil, List.append_assoc, List.map_append, List.map_cons, List.map_nil, cnt_append, cnt_cons, cnt_nil] <;> omega), .inl hJ2⟩
    refine TO.nl (Res.drop ?_)
    refine Res.zero Tryz.results87 ?_
    exact ⟨A2, Sub.cnt [oI vb 3 [(.int .i64 ((v : Nat) : Int))], oI xb 5 [(.int .u8 ((x : Nat) : Int))]] (by intro a; simp only [itms, oI, List.set_cons_zero, List.set_cons_succ, putL, List.cons_append, List.nil_append, List.append_nil, List.append_assoc, List.map_append, List.map_cons, List.map_nil, cnt_append, cnt_cons, cnt_nil] <;> omega), .inr hQ2⟩
  refine TO.nl ?_
  refine T.cond0 rfl ?_
  refine T.skip (Res.drop ?_)
  refine Res.zero Tryz.results87 ?_
  exact ⟨A1, Sub.cnt [oI vb 3 [(.int .i64 ((v : Nat) : Int))], oI xb 5 [(.int .u8 ((x : Nat) : Int))]] (by intro a; simp only [itms, oI, List.set_cons_zero, List.set_cons_succ, putL, List.cons_append, List.nil_append, List.append_nil, List.append_assoc, List.map_append, List.map_cons, List.map_nil, cnt_append, cnt_cons, cnt_nil] <;> omega), .inr hQ1⟩
theorem pCheck (w : World) [Tab Tryz.prog w] (a : DFA) (k : DK) (ha : At w a k) (haa : a.next.length < 9223372036854775807) (haar : ∀ r ∈ a.next, r.length < 9223372036854775807) (haaf : a.final.length < 9223372036854775807) (v : Int) :
    PureT Tryz.prog 48 [dV a k, .int .i64 v] w fun r N => r = .int .i64 (vE a v : Int) ∧ N = [] := by
  refine CallT.enter func48 rfl ntmps48 rfl ?_
  refine T.s (T.rg ?_)
  refine TO.l rfl (l_box (v := (dV a k)) (cs := (dC a k)) rfl rfl (fun bx1 => ?_))
  refine TO.qa rfl ?_
  refine TO.nl (T.s (T.s (T.rg ?_)))
  refine TO.q (q_la 0 underlying25 rfl inf25 rfl rfl rfl) ?_
  have hk7 := fun (w1 : World) (hI : Inv w [oI bx1 25 (dC a k)] w1) => (haveI := tbz hI; subsetCheck w1 a k.nb k.fb k.nc k.fc (vals k.qs) (hI.dfa ha) haa haar haaf)
  refine TO.l rfl (l_call ent35 (CallT.op hk7) rfl ?_)
  clear hk7
  rintro vr O' ⟨N, rfl, rfl, rfl⟩
  refine TO.qa rfl ?_
  refine TO.nl (T.s (T.rg ?_))
  refine TO.qm rfl (TO.q (q_neq rfl rfl) ?_)
  refine TO.nl ?_
  refine T.condP rfl (fun hc => ?_) (fun hc => ?_)
  · have hlt9 : checkD a ≠ 0 := by omega
    refine T.s (T.rg ?_)
    refine TO.qm rfl (TO.qa rfl ?_)
    refine TO.nl (T.ret (Res.drop ?_))
    refine Res.one (.int .i64 (checkD a : Int)) Tryz.results48 rfl ?_
    exact ⟨[], Sub.z, by congr 1; unfold vE; split <;> first | omega | (split <;> omega), rfl⟩
  have hge9 : ¬ checkD a ≠ 0 := by omega
  refine T.skip (T.s (T.s (T.rg ?_)))
  refine TO.qm rfl (TO.q (q_lss rfl rfl) ?_)
  by_cases hs13 : v < 0
  · refine TO.q (QT.toB (q_move rfl) (decide_eq_true hs13)) ?_
    refine TO.pd rfl rfl ?_
    refine TO.pd rfl rfl ?_
    refine TO.pd rfl rfl ?_
    refine TO.pd rfl rfl ?_
    refine TO.q (q_pick1 rfl rfl) ?_
    refine TO.nl ?_
    refine T.cond1 rfl ?_
    refine T.s (T.rg ?_)
    refine TO.qa rfl ?_
    refine TO.nl (T.ret (Res.drop ?_))
    refine Res.one (.int .i64 7) Tryz.results48 rfl ?_
    exact ⟨[], Sub.z, by congr 1; unfold vE; split <;> first | omega | (split <;> omega), rfl⟩
  refine TO.q (QT.toB (q_move rfl) (decide_eq_false hs13)) ?_
  refine TO.gd rfl rfl rfl (LT.oq rfl rfl (q_move rfl) ?_)
  refine TO.gd rfl rfl rfl (LT.oq rfl rfl (q_fa underlying25 rfl inf3 rfl rfl) ?_)
  refine TO.gd rfl rfl rfl (LT.oq rfl rfl (q_lb 0 underlying3 rfl rfl rfl rfl) ?_)
  refine TO.gd rfl rfl rfl (LT.oq rfl rfl (q_geq rfl rfl) ?_)
  refine TO.q (q_pick0 rfl rfl) ?_
  refine TO.nl ?_
  refine T.condP rfl (fun hc => ?_) (fun hc => ?_)
  · refine T.s ?_
    refine T.rg ?_
    refine TO.qa rfl ?_
    refine TO.nl (T.ret (Res.drop ?_))
    refine Res.one (.int .i64 7) Tryz.results48 rfl ?_
    exact ⟨[], Sub.z, by congr 1; unfold vE; split <;> first | omega | (split <;> omega), rfl⟩
  refine T.skip (T.s (T.rg ?_))
  refine TO.qa rfl ?_
  refine TO.nl (T.ret (Res.drop ?_))
  refine Res.one (.int .i64 0) Tryz.results48 rfl ?_
  exact ⟨[], Sub.z, by congr 1; unfold vE; split <;> first | omega | (split <;> omega), rfl⟩
end Go.Proofs.YtohkmggbfcnapaaGreatDoor


namespace Go.Lx
open Go.RowKit
set_option maxRecDepth 20000
section
variable {P : Program} {base : World} {ρ : Env} {O : List Item} {dst : Option Nat} {t : TypeId} {p : String} {af : Array Edge} {g : Option (Nat × Bool)}
end
theorem drp_prog2 : ∀ v, v < 6 → ∀ x, x < 32 → (x &&& (2 ^ v - 1)) ||| ((x &&& (255 - (2 ^ v - 1))) * 2 ^ 1) = drp v x := by decide +kernel
theorem and_one (y p : Nat) : (y >>> p) &&& 1 = if y.testBit p = true then 1 else 0 := by
  rw [Nat.and_one_is_mod, Nat.shiftRight_eq_div_pow, Nat.testBit_eq_decide_div_mod_eq]
  by_cases h : y / 2 ^ p % 2 = 1
  · simp [h]
  · simp [h]; omega
theorem imF_step (l : List Nat) (y i : Nat) : imF l y i ||| (((y >>> (l.getD i 0)) &&& 1) * 2 ^ i) = imF l y (i + 1) := by
  rw [and_one, imF]
  split <;> simp
theorem imF_256 (l : List Nat) (y : Nat) {n : Nat} (hn : n ≤ 6) : imF l y n < 256 := Nat.lt_of_lt_of_le (imF_lt l y n) (Nat.le_trans (Nat.pow_le_pow_right (by decide) hn) (by decide))
theorem bit_256 (y p : Nat) {i : Nat} (hi : i < 6) : ((y >>> p) &&& 1) * 2 ^ i < 256 := by
  rw [and_one]
  have : 2 ^ i ≤ 2 ^ 5 := Nat.pow_le_pow_right (by decide) (by omega)
  split <;> omega
end Go.Lx


namespace Go.Proofs.YtohkmggbfcnapaaGreatDoor
open Go.Lx Go.RowKit _root_.Go.Proofs.Tryz
end Go.Proofs.YtohkmggbfcnapaaGreatDoor


namespace Go.Lx
open Go.RowKit
end Go.Lx


namespace Go.Proofs.YtohkmggbfcnapaaGreatDoor
open Go.Lx Go.RowKit _root_.Go.Proofs.Tryz
end Go.Proofs.YtohkmggbfcnapaaGreatDoor


namespace Go.Lx
set_option maxRecDepth 20000
theorem HasL.flipP {n : Int} {N : Nat} {d : DFA} {p : List Nat → Bool} (h : HasL n N d p) : HasL n N (flipD d) (fun w => !p w) :=
  ⟨flip_valid h.valid, h.len, h.vars, fun w hw => by rw [flip_acc h.valid.toVal (h.wd.2 hw), h.acc w hw]⟩
theorem HasL.lt6 {n : Int} {N : Nat} {d : DFA} {p : List Nat → Bool} (h : HasL n N d p) : 0 ≤ n ∧ n ≤ 6 := by
  have h1 := h.valid.v0; have h2 := h.valid.v6; rw [h.vars] at h1 h2; exact ⟨h1, h2⟩
theorem HasL.l64 {n : Int} {N : Nat} {d : DFA} {p : List Nat → Bool} (h : HasL n N d p) {u : List Nat} (hu : WdV n u) : ∀ x ∈ u, x < 64 := fun x hx => by
  have := hu x hx
  have h6 := h.lt6
  have : 2 ^ n.toNat ≤ 2 ^ 6 := Nat.pow_le_pow_right (by decide) (by omega)
  omega
theorem HasL.varI {n : Int} {N : Nat} {d : DFA} {p : List Nat → Bool} (h : HasL n N d p) {v : Nat} (hv : v < n.toNat) {u z : List Nat} (hu : WdV n u) (hz : Vari v u z) : WdV n z := Vari.wd (by have := h.lt6; omega) hv hu hz
theorem vE_of {n : Int} {N : Nat} {d : DFA} {p : List Nat → Bool} (h : HasL n N d p) {v : Int} (h0 : 0 ≤ v) (h1 : v < n) : vE d v = 0 := vE_zero.2 ⟨h.valid, h0, by rw [h.vars]; exact h1⟩
theorem vE_to {n : Int} {N : Nat} {d : DFA} {p : List Nat → Bool} (h : HasL n N d p) {v : Int} (he : vE d v = 0) : 0 ≤ v ∧ v < n ∧ v.toNat < n.toNat ∧ v.toNat < 6 := by
  obtain ⟨_, h1, h2⟩ := vE_zero.1 he
  rw [h.vars] at h2
  have := h.lt6
  exact ⟨h1, h2, by omega, by omega⟩
theorem HasL.nV {n : Int} {N : Nat} {d : DFA} {p : List Nat → Bool} (h : HasL n N d p) : MinL n N (minD (flipD d)) (fun w => !p w) := h.flipP.minim
theorem alE_ok {n : Int} {N : Nat} {d : DFA} {p : List Nat → Bool} (h : HasL n N d p) (v B : Int) : alE d v B = xsE (minD (flipD d)) v B := by unfold alE; rw [if_neg (by rw [checkD_zero.2 h.valid]; decide)]
theorem igV_iff {n : Int} {N : Nat} {d : DFA} {p : List Nat → Bool} (h : HasL n N d p) {v : Int} (he : vE d v = 0) : igV d v = true ↔ IgnP n v.toNat p := by
  unfold igV
  rw [he, decide_eq_true rfl, Bool.true_and]
  exact h.minim.ign (vE_to h he).2.2.1
theorem in_has {n : Int} {N : Nat} {d : DFA} {p : List Nat → Bool} (h : HasL n N d p) {v : Int} (he : inE2 d v = 0) : 0 ≤ v ∧ v ≤ n ∧ n < 6 ∧ MinL (n + 1) N (inV d v) (fun w => p (w.map (cut v.toNat))) := by
  unfold inE2 at he
  rw [checkD_zero.2 h.valid, if_neg (by decide)] at he
  split at he
  · cases he
  · rename_i hc
    have h6 := h.lt6
    rw [h.vars] at hc
    have e2 : inE2 d v = 0 := by unfold inE2; rw [checkD_zero.2 h.valid, if_neg (by decide), if_neg (by rw [h.vars]; exact hc)]
    refine ⟨by omega, by omega, by omega, ?_⟩
    unfold inV
    rw [if_pos e2, h.vars]
    exact (h.re (by omega) (by omega) fun x hx => by
      have e : (n + 1).toNat = n.toNat + 1 := by omega
      rw [e] at hx
      exact cut_lt n.toNat (by omega) v.toNat (by omega) x hx).minim
theorem dr_has {n : Int} {N : Nat} {d : DFA} {p : List Nat → Bool} (h : HasL n N d p) {v : Int} (he : vE d v = 0) (hi : igV d v = true) : drE d v = 0 ∧ MinL (n - 1) N (drV d v) (fun w => p (w.map (drp v.toNat))) := by
  have e0 : drE d v = 0 := by unfold drE; rw [if_neg (by omega), if_pos hi]
  obtain ⟨g1, g2, g3, g4⟩ := vE_to h he
  have h6 := h.lt6
  refine ⟨e0, ?_⟩
  unfold drV
  rw [if_pos e0, h.vars]
  exact (h.re (by omega) (by omega) fun x hx => by
    have e : n.toNat = (n - 1).toNat + 1 := by omega
    rw [e]
    exact drp_lt (n - 1).toNat (by omega) v.toNat (by omega) x hx).minim
theorem rn_has {n : Int} {N : Nat} {d : DFA} {p : List Nat → Bool} (h : HasL n N d p) {l : List Int} (he : rnE d l = 0) : PermN (natL l) n.toNat ∧ l = (natL l).map (fun q : Nat => (q : Int)) ∧ l.length = n.toNat ∧ MinL n N (rnV d l) (fun w => p (w.map fun y => imF (natL l) y n.toNat)) := by
  obtain ⟨_, hp⟩ := rnE_zero.1 he
  rw [h.vars] at hp
  have h6 := h.lt6
  refine ⟨hp.nat.1, hp.nat.2, hp.1, ?_⟩
  unfold rnV
  rw [if_pos he, h.vars, hp.1]
  exact (h.re (by omega) (by omega) fun x hx => imF_lt _ _ _).minim
def smF (d : DFA) (v : Nat) : Nat → List Nat → Nat → Bool
  | 0, w, _ => accV d w
  | k + 1, w, i => smF d v k w (i + 1) || smF d v k (w.set i (w.getD i 0 ^^^ 2 ^ v)) (i + 1)
theorem flip_c : ∀ v, v < 6 → ∀ x, x < 64 → (x = c0 v x ∧ x ^^^ 2 ^ v = c1 v x ∨ x = c1 v x ∧ x ^^^ 2 ^ v = c0 v x) ∧ x ^^^ 2 ^ v < 64 := by decide +kernel
theorem smF_iff {d : DFA} {v : Nat} (hv : v < 6) : ∀ (k : Nat) (w : List Nat) (i : Nat), (∀ x ∈ w, x < 64) → i + k = w.length → (smF d v k w i = true ↔ ∃ z, Vari v (w.drop i) z ∧ accV d (w.take i ++ z) = true)
  | 0, w, i, hw, hk => by
    rw [smF, List.drop_of_length_le (by omega), List.take_of_length_le (by omega)]
    constructor
    · intro h; exact ⟨[], trivial, by rw [List.append_nil]; exact h⟩
    · rintro ⟨z, h1, h2⟩
      cases z with
      | nil => rwa [List.append_nil] at h2
      | cons _ _ => exact h1.elim
  | k + 1, w, i, hw, hk => by
    have hi : i < w.length := by omega
    have hx : w[i] < 64 := hw _ (List.getElem_mem hi)
    obtain ⟨hf, hlt⟩ := flip_c v hv w[i] hx
    have hg : w.getD i 0 = w[i] := by rw [List.getD_eq_getElem?_getD, List.getElem?_eq_getElem hi]; rfl
    have hw2 : ∀ x ∈ w.set i (w[i] ^^^ 2 ^ v), x < 64 := fun x hx => by
      rcases List.mem_or_eq_of_mem_set hx with h | rfl
      · exact hw x h
      · exact hlt
    have hd2 : (w.set i (w[i] ^^^ 2 ^ v)).drop (i + 1) = w.drop (i + 1) := by rw [List.drop_set, if_pos (by omega)]
    have ht1 : w.take (i + 1) = w.take i ++ [w[i]] := List.take_succ_eq_append_getElem hi
    have ht2 : (w.set i (w[i] ^^^ 2 ^ v)).take (i + 1) = w.take i ++ [w[i] ^^^ 2 ^ v] := by
      rw [List.take_succ_eq_append_getElem (by rw [List.length_set]; exact hi), List.getElem_set_self, List.take_set_of_le (Nat.le_refl i)]
    rw [smF, Bool.or_eq_true, hg, smF_iff hv k w (i + 1) hw (by omega), smF_iff hv k _ (i + 1) hw2 (by rw [List.length_set]; omega), hd2, ht1, ht2, List.drop_eq_getElem_cons hi]
    constructor
    · rintro (⟨z, h1, h2⟩ | ⟨z, h1, h2⟩)
      · refine ⟨w[i] :: z, ⟨by rcases hf with h | h <;> omega, h1⟩, ?_⟩
        rwa [List.append_assoc] at h2
      · refine ⟨(w[i] ^^^ 2 ^ v) :: z, ⟨by rcases hf with h | h <;> omega, h1⟩, ?_⟩
        rwa [List.append_assoc] at h2
    · rintro ⟨z, h1, h2⟩
      cases z with
      | nil => exact h1.elim
      | cons y z =>
        by_cases e : y = w[i]
        · subst e; exact .inl ⟨z, h1.2, by rw [List.append_assoc]; exact h2⟩
        · have e2 : y = w[i] ^^^ 2 ^ v := by rcases hf with h | h <;> rcases h1.1 with g | g <;> omega
          subst e2; exact .inr ⟨z, h1.2, by rw [List.append_assoc]; exact h2⟩
theorem xs_some {n : Int} {N : Nat} {d x : DFA} {p : List Nat → Bool} (h : HasL n N d p) {v K : Nat} (hv : v < n.toNat) (hx : HasL n K x (exP v p)) {w : List Nat} (hw : runE d w = 0) : runE x w = 0 ∧ accV x w = smF d v w.length w 0 := by
  obtain ⟨_, hlen, hwd⟩ := runE_zero.1 hw
  have hwv : WdV n w := by intro y hy; have := hwd y hy; rw [← h.vars]; exact this
  have e0 : runE x w = 0 := runE_zero.2 ⟨hx.valid, hlen, hx.wd.2 hwv⟩
  refine ⟨e0, ?_⟩
  have hv6 : v < 6 := by have := h.lt6; omega
  rw [accV_zero e0, hx.acc _ hwv, Bool.eq_iff_iff, exP_iff, smF_iff hv6 w.length w 0 (h.l64 hwv) (by omega)]
  constructor
  · rintro ⟨z, h1, h2⟩
    refine ⟨z, h1, ?_⟩
    have hz := h.varI hv hwv h1
    have hl : z.length = w.length := Vari.len h1
    have ez : runE d z = 0 := runE_zero.2 ⟨h.valid, by omega, h.wd.2 hz⟩
    show accV d z = true
    rw [accV_zero ez, h.acc z hz]; exact h2
  · rintro ⟨z, h1, h2⟩
    refine ⟨z, h1, ?_⟩
    have hz := h.varI hv hwv h1
    have hl : z.length = w.length := Vari.len h1
    have ez : runE d z = 0 := runE_zero.2 ⟨h.valid, by omega, h.wd.2 hz⟩
    have h3 : accV d z = true := h2
    rw [accV_zero ez, h.acc z hz] at h3; exact h3
end Go.Lx


namespace Go.Lx
open Go.RowKit Go.Sort
section
variable {P : Program} {r : Option Nat} {base : World} {n : Nat} {ρ : Env} {O : List Item} {K : Env → List Item → Prop} {d : Nat} {dst : Option Nat} {t : TypeId} {p : String} {af : Array Edge} {g : Option (Nat × Bool)}
theorem q_idxStr {x y : Operand} {S : TypeId} {bs : ByteArray} {i m : Nat} {kk : IntKind} {b : UInt8} (hu : P.underlying S = some .string) (hx : ev ρ x = .string bs) (hy : ev ρ y = .int kk (i : Int)) (hb : bs[i]? = some b) (hm : b.toNat = m) : QT P base ⟨dst, .index S x y, t, p, af, g⟩ ρ O (.int .u8 (m : Int)) := fun w _ => by
  subst hm
  simp [execOp, hx, hy, Instr.index, asIntOf, run_underlying' hu, hb]
theorem q_and16 {x y : Operand} {T U : TypeId} (hx : ev ρ x = .int .i64 16) (hy : ev ρ y = .int .i64 15) : QT P base ⟨dst, .binOp .and T x y U, t, p, af, g⟩ ρ O (.int .i64 0) := fun w _ => by
  have e : bits BinOp.and IntKind.i64 16 15 = 0 := by decide
  simp [execOp, hx, hy, eqGuard, binOp, Op.intBits]
  decide
theorem q_sliceAF {T E : TypeId} {x y : Operand} {b m l by_ : Nat} {z : Value} (hu : P.underlying T = some (.array m E)) (hi : Inf P E z 1 by_) (hx : ev ρ x = .pointer (some ⟨b, 0, none⟩)) (hy : ev ρ y = .int .i64 (l : Int)) (hh : l < m) :
    QT P base ⟨dst, .slice T x (some y) none none, t, p, af, g⟩ ρ O (.slice (some ⟨b, l, none⟩) (m - l) (m - l)) := fun w hI => by
  have e1 : (l : Int) ≤ (m : Int) := by omega
  have e2 : (0 : Int) ≤ (l : Int) := by omega
  have e3 : l ≤ m := by omega
  have e4 : m - l ≠ 0 := by omega
  simp [execOp, Instr.sliceAt, Instr.sureAddr, hx, hy, run_underlying' hu, run_sizeOf' hi, Instr.sliceBounds, Instr.sliceBound, asIntOf, e1, e2, add_off, hh, e3, e4, Addr.add]
  rw [if_neg (by omega)]; split
  · rename_i h; subst h; rfl
  · rfl
theorem l_appendAF {T U E A : TypeId} {b : Option Addr} {m c l ca k o by_ : Nat} {x y : Operand} {z : Value} {cs new : List Value} {arr : Array Value} (i j : Nat)
    (hu : P.underlying T = some (.slice E)) (hxu : P.underlying U = some (.slice E)) (hi : Inf P E z 1 by_) (hz : z.cells.size = 1)
    (hx : ev ρ x = .slice b m c) (hy : ev ρ y = .slice (some ⟨k, o, none⟩) l ca) (hO : O[j]? = some (rowI b c E 1 cs)) (hl : cs.length = m) (hs : new.length = l)
    (hA : O[i]? = some (objI k (.cells arr A (0, 0)))) (hn' : ∀ q (h : q < new.length), arr[o + q]? = some new[q]) (hone : (new.all oneB) = true)
    (hsz : (m + l) * by_ ≤ 70368744177664) (hby : by_ ≤ 1000000) (hsz' : 0 < by_)
    (h : ∀ b' c', K (upd ρ d (.slice b' (m + l) c')) (O.set j (rowI b' c' E 1 (cs ++ new)))) (hn : Nat.blt d n = true := by rfl) :
    LT P r base n ⟨some d, .call ⟨.builtin .append, #[x, y], #[T, U]⟩, t, p, af, g⟩ ρ O K :=
  LT.of_run hn fun w M hI => by
    have hsrc : Src P base (O ++ M) 1 l (.slice (some ⟨k, o, none⟩) l ca) new := ⟨by omega, fun w => by simp [Builtin.lenOf], fun w hI => firstCells_run (fun q hq => ⟨⟨k, o, none⟩, rfl, rfl, by
      have hb : w.heap[k]? = some (.cells arr A (0, 0)) := hI.holds _ (List.mem_of_getElem? (at_app hA))
      simp [World.cell?, hb, hn' q hq]⟩) (by omega) (fun e => by cases e)⟩
    obtain ⟨b', c', w', hr, hI'⟩ := run_append (ty := t) hu hxu (.inl ⟨_, rfl⟩) hi hz (at_app hO) (by simpa using hl) (by decide) hsrc hone hsz hby hsz' hI
    rw [set_app hO] at hI'
    refine ⟨_, w', _, ?_, hI', h b' c'⟩
    simp [execOp, resolve, hx, hy, invoke, builtin, hr]
end
def dgt (k : Nat) : Nat := if k < 10 then 48 + k else 87 + k
def hexF : Nat → Nat → List Nat
  | 0, _ => []
  | f + 1, w => if w < 16 then [dgt w] else hexF f (w / 16) ++ [dgt (w % 16)]
def hexL (w : Nat) : List Nat := hexF 16 w
def digB : ByteArray := ⟨#[48, 49, 50, 51, 52, 53, 54, 55, 56, 57, 97, 98, 99, 100, 101, 102, 103, 104, 105, 106, 107, 108, 109, 110, 111, 112, 113, 114, 115, 116, 117, 118, 119, 120, 121, 122]⟩
theorem digS : ∀ i, i < 16 → ∃ b, digB[i]? = some b ∧ b.toNat = dgt i := by
  intro i hi
  have : ∀ j : Fin 16, (digB[j.val]?).map UInt8.toNat = some (dgt j.val) := by decide +kernel
  have h := this ⟨i, hi⟩
  cases e : digB[i]? with
  | none => simp [e] at h
  | some b => exact ⟨b, rfl, by simpa [e] using h⟩
theorem dgt_inj : ∀ a, a < 16 → ∀ b, b < 16 → dgt a = dgt b → a = b := by decide
theorem dgt_lt : ∀ a, a < 16 → dgt a < 256 ∧ dgt a ≠ 32 := by decide
theorem hexF_ne : ∀ f w, hexF (f + 1) w ≠ [] := fun f w => by unfold hexF; split <;> simp
theorem hexF_len : ∀ f w, (hexF f w).length ≤ f
  | 0, w => by simp [hexF]
  | f + 1, w => by
    unfold hexF; split
    · simp
    · have := hexF_len f (w / 16); simp; omega
theorem hexF_lt {f w : Nat} (h : w < 16) : hexF (f + 1) w = [dgt w] := by rw [hexF, if_pos h]
theorem hexF_ge {f w : Nat} (h : ¬ w < 16) : hexF (f + 1) w = hexF f (w / 16) ++ [dgt (w % 16)] := by rw [hexF, if_neg h]
theorem hexF_inj : ∀ f a b, a < 16 ^ f → b < 16 ^ f → hexF f a = hexF f b → a = b
  | 0, a, b, ha, hb, _ => by simp at ha hb; omega
  | 1, a, b, ha, hb, h => by
    have ha : a < 16 := by omega
    have hb : b < 16 := by omega
    unfold hexF at h
    rw [if_pos ha, if_pos hb] at h
    exact dgt_inj a ha b hb (List.cons.inj h).1
  | f + 2, a, b, ha, hb, h => by
    have hne := hexF_ne f
    by_cases h1 : a < 16 <;> by_cases h2 : b < 16
    · rw [hexF_lt h1, hexF_lt h2] at h
      exact dgt_inj a h1 b h2 (List.cons.inj h).1
    · rw [hexF_lt h1, hexF_ge h2] at h
      have := congrArg List.length h
      have h3 := List.length_pos_iff.2 (hne (b / 16))
      rw [List.length_append, List.length_singleton, List.length_singleton] at this; omega
    · rw [hexF_ge h1, hexF_lt h2] at h
      have := congrArg List.length h
      have h3 := List.length_pos_iff.2 (hne (a / 16))
      rw [List.length_append, List.length_singleton, List.length_singleton] at this; omega
    · rw [hexF_ge h1, hexF_ge h2] at h
      obtain ⟨g1, g2⟩ := List.append_inj' h rfl
      have e1 := hexF_inj (f + 1) (a / 16) (b / 16) (by rw [Nat.pow_succ] at ha; omega) (by rw [Nat.pow_succ] at hb; omega) g1
      have e2 := dgt_inj (a % 16) (by omega) (b % 16) (by omega) (List.cons.inj g2).1
      omega
theorem hexL_inj {a b : Nat} (ha : a < 18446744073709551616) (hb : b < 18446744073709551616) (h : hexL a = hexL b) : a = b := hexF_inj 16 a b (by simpa using ha) (by simpa using hb) h
def HexI (w u : Nat) (ds : List Nat) : Prop := ∃ f, hexF 16 w = hexF f u ++ ds ∧ u < 16 ^ f ∧ f + ds.length = 16 ∧ 0 < f
theorem HexI.zero {w : Nat} (hw : w < 18446744073709551616) : HexI w w [] := ⟨16, by simp, by simpa using hw, rfl, by decide⟩
theorem HexI.step {w u : Nat} {ds : List Nat} (h : HexI w u ds) (hu : 16 ≤ u) : HexI w (u / 16) (dgt (u % 16) :: ds) ∧ ds.length < 15 := by
  obtain ⟨f, h1, h2, h3, h4⟩ := h
  obtain ⟨f', rfl⟩ : ∃ f', f = f' + 1 := ⟨f - 1, by omega⟩
  have hf : 0 < f' := by
    rcases Nat.eq_zero_or_pos f' with e | e
    · subst e; simp at h2; omega
    · exact e
  refine ⟨⟨f', ?_, by rw [Nat.pow_succ] at h2; omega, by simp; omega, hf⟩, by omega⟩
  rw [h1, hexF, if_neg (by omega), List.append_assoc]; rfl
theorem HexI.done {w u : Nat} {ds : List Nat} (h : HexI w u ds) (hu : u < 16) : hexL w = dgt u :: ds ∧ ds.length ≤ 15 := by
  obtain ⟨f, h1, h2, h3, h4⟩ := h
  obtain ⟨f', rfl⟩ : ∃ f', f = f' + 1 := ⟨f - 1, by omega⟩
  refine ⟨?_, by omega⟩
  unfold hexL
  rw [h1, hexF, if_pos hu]; rfl
theorem HexI.le {w u : Nat} {ds : List Nat} (h : HexI w u ds) : u < 18446744073709551616 := by
  obtain ⟨f, h1, h2, h3, h4⟩ := h
  have : 16 ^ f ≤ 16 ^ 16 := Nat.pow_le_pow_right (by decide) (by omega)
  omega
def ArrI (cs : List Value) (ds : List Nat) : Prop := cs.length = 65 ∧ ∀ q (h : q < ds.length), cs[65 - ds.length + q]? = some (.int .u8 ((ds[q] : Nat) : Int))
theorem ArrI.put {cs : List Value} {ds : List Nat} {x : Nat} (h : ArrI cs ds) (hl : ds.length ≤ 15) : ArrI (putL cs (65 - ds.length - 1) [.int .u8 (x : Int)]) (x :: ds) := by
  obtain ⟨h1, h2⟩ := h
  have e : putL cs (65 - ds.length - 1) [Value.int .u8 (x : Int)] = cs.set (65 - ds.length - 1) (.int .u8 (x : Int)) := by
    rfl
  rw [e]
  refine ⟨by simp [h1], fun q hq => ?_⟩
  rw [List.length_cons] at hq ⊢
  cases q with
  | zero => rw [Nat.add_zero, show 65 - (ds.length + 1) = 65 - ds.length - 1 by omega, List.getElem?_set_self (by omega)]; rfl
  | succ q =>
    rw [List.getElem?_set_ne (by omega), show 65 - (ds.length + 1) + (q + 1) = 65 - ds.length + q by omega, h2 q (by omega)]
    simp
theorem ArrI.fin {cs : List Value} {ds L : List Nat} {x : Nat} (h : ArrI cs ds) (hl : ds.length ≤ 15) (hL : L = x :: ds) : ∀ q (hq : q < (byts L).length), ((putL cs (65 - ds.length - 1) [.int .u8 (x : Int)]).toArray)[65 - ds.length - 1 + q]? = some (byts L)[q] := by
  subst hL
  intro q hq
  have h9 := (h.put (x := x) hl).2 q (by simpa using hq)
  rw [show 65 - (x :: ds).length + q = 65 - ds.length - 1 + q by simp only [List.length_cons]; omega] at h9
  rw [List.getElem?_toArray, h9]
  refine congrArg some ?_
  show _ = (List.map (fun x : Nat => Value.int .u8 (x : Int)) (x :: ds))[q]
  rw [List.getElem_map]
theorem hexF_256 : ∀ f w, ∀ x ∈ hexF f w, x < 256
  | 0, w, x, h => by simp [hexF] at h
  | f + 1, w, x, h => by
    by_cases hw : w < 16
    · rw [hexF_lt hw] at h
      have : x = dgt w := by simpa using h
      rw [this]; exact (dgt_lt w hw).1
    · rw [hexF_ge hw] at h
      rcases List.mem_append.1 h with h | h
      · exact hexF_256 f _ x h
      · have : x = dgt (w % 16) := by simpa using h
        rw [this]; exact (dgt_lt _ (by omega)).1
def keyM (m : Nat) : List UInt8 := (hexL m ++ [32]).map UInt8.ofNat
theorem keyM_cells (m : Nat) : (byts [] ++ byts (hexL m)) ++ [Value.int .u8 32] = cells8 (keyM m) := by
  unfold cells8 keyM
  rw [List.map_map, List.map_append]
  refine congrArg (· ++ _) ?_
  refine List.map_congr_left fun x hx => ?_
  have := hexF_256 16 m x hx
  simp [UInt8.toNat_ofNat', Nat.mod_eq_of_lt this]
theorem keyM_len (m : Nat) : (keyM m).length = 0 + (hexL m).length + 1 := by simp [keyM]
theorem keyM_inj {a b : Nat} (ha : a < 18446744073709551616) (hb : b < 18446744073709551616) (h : keyM a = keyM b) : a = b := by
  have h1 : cells8 (keyM a) = cells8 (keyM b) := by rw [h]
  rw [← keyM_cells, ← keyM_cells] at h1
  have h2 := (List.append_inj' h1 rfl).1
  have h3 : byts (hexL a) = byts (hexL b) := h2
  refine hexL_inj ha hb ?_
  have inj : ∀ l m : List Nat, byts l = byts m → l = m := by
    intro l
    induction l with
    | nil => intro m h; cases m with | nil => rfl | cons _ _ => cases h
    | cons x l ih =>
      intro m h
      cases m with
      | nil => cases h
      | cons y m =>
        have e := List.cons.inj h
        have e1 : (x : Int) = (y : Int) := by injection e.1
        rw [ih m e.2, show x = y by omega]
  exact inj _ _ h3
end Go.Lx


namespace Go.Lx
open Go.RowKit
def rwN (d : DFA) (v i w : Nat) : List Int := (List.range (letN d)).map fun x => ((ix (pst d v w x) (psM d v i w (x + 1)) : Nat) : Int)
def rwP (d : DFA) (v i w x : Nat) : List Int := (List.range (letN d)).map fun y => if y < x then ((ix (pst d v w y) (psM d v i w (y + 1)) : Nat) : Int) else 0
theorem rwN_len (d : DFA) (v i w : Nat) : (rwN d v i w).length = letN d := by simp [rwN]
theorem rwP_len (d : DFA) (v i w x : Nat) : (rwP d v i w x).length = letN d := by simp [rwP]
theorem rwP_zero (d : DFA) (v i w : Nat) : List.replicate (letN d) (Value.int .i64 0) = ints (rwP d v i w 0) := by
  apply List.ext_getElem (by simp [rwP])
  intro n h1 h2
  simp [rwP]
theorem rwP_full (d : DFA) (v i w : Nat) : rwP d v i w (letN d) = rwN d v i w := by
  unfold rwP rwN
  exact List.map_congr_left fun y hy => by rw [if_pos (List.mem_range.1 hy)]
theorem rwP_set {d : DFA} {v i w x : Nat} (hx : x < letN d) : (rwP d v i w x).set x ((ix (pst d v w x) (psM d v i w (x + 1)) : Nat) : Int) = rwP d v i w (x + 1) := by
  apply List.ext_getElem (by simp [rwP])
  intro n h1 h2
  rw [List.getElem_set]
  simp only [rwP, List.getElem_map, List.getElem_range]
  by_cases e : x = n
  · subst e; simp
  · have e' : n < x + 1 ↔ n < x := by omega
    simp [e, e']
def pwA (d : DFA) (v i : Nat) : Nat := (psN d v i).getD i 0
theorem pwA_get {d : DFA} {v i : Nat} (h : i < (psN d v i).length) : (psN d v i)[i]? = some (pwA d v i) := by
  unfold pwA; rw [List.getD_eq_getElem?_getD, List.getElem?_eq_getElem h]; rfl
theorem psM_pre (d : DFA) (v i w : Nat) {a b : Nat} (h : a ≤ b) : psM d v i w a <+: psM d v i w b := by
  induction h with
  | refl => exact List.prefix_rfl
  | step _ ih => exact ih.trans (by rw [psM_step]; exact add_prefix _ _)
theorem psM_mem (d : DFA) (v i w x : Nat) : pst d v w x ∈ psM d v i w (x + 1) := by rw [psM_step]; exact mem_add.2 (.inr rfl)
theorem psM_gd {d : DFA} (hv : Val d) (hn : d.next.length ≤ 64) {v : Nat} (hvv : v < d.vars.toNat) {i w : Nat} (hw : Gd d w) : ∀ x, x ≤ letN d → ∀ q ∈ psM d v i w x, Gd d q
  | 0, _, q, hq => psN_gd hv hn hvv i q hq
  | x + 1, hx, q, hq => by
    rw [psM_step] at hq
    rcases mem_add.1 hq with h | rfl
    · exact psM_gd hv hn hvv hw x (by omega) q h
    · exact hw.step hv hn hvv (by omega)
theorem psM_len (d : DFA) (v i w : Nat) : ∀ x, (psM d v i w x).length ≤ (psN d v i).length + x
  | 0 => Nat.le_refl _
  | x + 1 => by
    have := psM_len d v i w x
    rw [psM_step]; unfold add; split
    · omega
    · rw [List.length_append, List.length_singleton]; omega
def pdN (d : DFA) (v i : Nat) : DFA := ⟨d.vars, 0, (List.range i).map fun j => rwN d v j (pwA d v j), (List.range i).map fun j => (elN (pwA d v j)).any (finN d)⟩
theorem pdN_next (d : DFA) (v i : Nat) : (pdN d v (i + 1)).next = (pdN d v i).next ++ [rwN d v i (pwA d v i)] := by simp [pdN, List.range_succ]
theorem pdN_final (d : DFA) (v i : Nat) : (pdN d v (i + 1)).final = (pdN d v i).final ++ [(elN (pwA d v i)).any (finN d)] := by simp [pdN, List.range_succ]
theorem pdN_nl (d : DFA) (v i : Nat) : (pdN d v i).next.length = i := by simp [pdN]
theorem pdN_fl (d : DFA) (v i : Nat) : (pdN d v i).final.length = i := by simp [pdN]
theorem pdN_end {d : DFA} {v i : Nat} (h : (psN d v i).length = i) : pdN d v i = exM d v (psN d v i) := by
  have hlt : ∀ j, j < i → j < (psN d v j).length := fun j hj => by
    rcases Nat.lt_or_ge j (psN d v j).length with h1 | h1
    · exact h1
    · have := gq_stop (psuc d v) (2 ^ d.start.toNat) (i := j) h1 i (by omega)
      rw [show gq (psuc d v) (2 ^ d.start.toNat) i = psN d v i from rfl, show gq (psuc d v) (2 ^ d.start.toNat) j = psN d v j from rfl] at this
      rw [this] at h; omega
  have hat : ∀ j (hj : j < i), (psN d v i)[j]'(by omega) = pwA d v j := fun j hj => by
    obtain ⟨r, hr⟩ := gq_pre (psuc d v) (2 ^ d.start.toNat) (i := j) (m := i) (by omega)
    have h1 := pwA_get (hlt j hj)
    have h2 : (psN d v i)[j]? = (psN d v j)[j]? := by
      show (gq (psuc d v) (2 ^ d.start.toNat) i)[j]? = _
      rw [← hr, List.getElem?_append_left (hlt j hj)]
    rw [h1, List.getElem?_eq_getElem (by omega)] at h2
    exact Option.some.inj h2
  unfold pdN exM
  congr 1
  · apply List.ext_getElem (by simp [h])
    intro j h1 h2
    have hj : j < i := by simpa using h1
    simp only [List.getElem_map, List.getElem_range]
    rw [hat j hj]
    unfold rwN
    refine List.map_congr_left fun x hx => ?_
    have hx := List.mem_range.1 hx
    refine congrArg (fun n : Nat => (n : Int)) (ix_prefix ?_ (psM_mem d v j _ x)).symm
    refine (psM_pre d v j _ (show x + 1 ≤ letN d by omega)).trans ?_
    rw [psM_full (pwA_get (hlt j hj))]
    exact gq_pre (psuc d v) (2 ^ d.start.toNat) (by omega)
  · apply List.ext_getElem (by simp [h])
    intro j h1 h2
    have hj : j < i := by simpa using h1
    simp only [List.getElem_map, List.getElem_range]
    rw [hat j hj]
theorem keyL_mem {l : List Nat} {a : Nat} (hl : ∀ q ∈ l, q < 18446744073709551616) (ha : a < 18446744073709551616) : keyM a ∈ l.map keyM ↔ a ∈ l := by
  rw [List.mem_map]
  exact ⟨fun ⟨q, hq, e⟩ => keyM_inj (hl q hq) ha e ▸ hq, fun h => ⟨a, h, rfl⟩⟩
theorem keyL_ix {a : Nat} (ha : a < 18446744073709551616) : ∀ {l : List Nat}, (∀ q ∈ l, q < 18446744073709551616) → ix (keyM a) (l.map keyM) = ix a l
  | [], _ => rfl
  | q :: l, hl => by
    have ih := keyL_ix ha (l := l) fun x hx => hl x (List.mem_cons_of_mem _ hx)
    rw [List.map_cons, ix, ix]
    by_cases e : q = a
    · subst e; simp
    · have : ¬ keyM a = keyM q := fun h => e (keyM_inj (hl q (by simp)) ha h.symm)
      have e2 : ¬ a = q := fun h => e h.symm
      simp [e2, this, ih]
theorem keyL_look {l : List Nat} {a : Nat} (hl : ∀ q ∈ l, q < 18446744073709551616) (ha : a < 18446744073709551616) : lookL (keyM a) ((l.map keyM).zipIdx) = if a ∈ l then some (ix a l) else none := by
  rw [look_zip, keyL_ix ha hl]
  by_cases h : a ∈ l
  · rw [if_pos h, if_pos ((keyL_mem hl ha).2 h), Nat.zero_add]
  · rw [if_neg h, if_neg fun e => h ((keyL_mem hl ha).1 e)]
abbrev keyZ (l : List Nat) : List (List UInt8 × Nat) := (l.map keyM).zipIdx
def lkN (y : Nat) (l : List Nat) : Nat := if y ∈ l then ix y l else 0
theorem keyL_snoc (l : List Nat) (a : Nat) : keyZ (l ++ [a]) = keyZ l ++ [(keyM a, l.length)] := by
  unfold keyZ
  rw [List.map_append, List.zipIdx_append]; simp
theorem keyL_new {l : List Nat} {a : Nat} (hl : ∀ q ∈ l, q < 18446744073709551616) (ha : a < 18446744073709551616) (h : a ∉ l) : keyM a ∉ (keyZ l).map Prod.fst := by
  rw [zipIdx_fst]; exact fun e => h ((keyL_mem hl ha).1 e)
theorem mOf_one (s : Nat) : mOf [s] = 2 ^ s := by simp [mOf]
theorem any_step {α : Type} {l : List α} {j : Nat} {s : α} {f : α → Bool} (h : l[j]? = some s) : (l.take (j + 1)).any f = ((l.take j).any f || f s) := by
  obtain ⟨hj, rfl⟩ := List.getElem?_eq_some_iff.1 h
  rw [List.take_succ_eq_append_getElem hj, List.any_append]; simp
structure SRec where
  b : Option Addr
  c : Nat
  w : Nat
def SRec.val (q : SRec) : Value := .slice q.b 1 1
def SRec.itm (E : TypeId) (q : SRec) : Item := rowI q.b q.c E 1 (uns [q.w])
abbrev svals (qs : List SRec) : List Value := qs.map SRec.val
abbrev sitms (E : TypeId) (qs : List SRec) : List Item := qs.map (SRec.itm E)
theorem svals_at {us : List SRec} {n : Nat} {q : SRec} (h : us[n]? = some q) : (svals us)[n]? = some (.slice q.b 1 1) := by rw [List.getElem?_map, h]; rfl
def setI (ST E : TypeId) (sb : Option Addr) (sc : Nat) (us : List SRec) : Item := packI True (rowI sb sc ST 1 (svals us) :: sitms E us)
theorem setO {base : World} {O : List Item} {ST E : TypeId} {sb : Option Addr} {sc : Nat} {us : List SRec} (h : setI ST E sb sc us ∈ O) : ∀ w, Inv base O w → Sl w sb (svals us) := fun w hI => by
  have h0 := (hI.holds _ h).2 (rowI sb sc ST 1 (svals us)) (by simp)
  exact rowP.sl h0
theorem setQ {base : World} {O : List Item} {ST E : TypeId} {sb : Option Addr} {sc : Nat} {us : List SRec} {n : Nat} {q : SRec} (h : setI ST E sb sc us ∈ O) (hq : us[n]? = some q) : ∀ w, Inv base O w → Sl w q.b (uns [q.w]) := fun w hI => by
  have h0 := (hI.holds _ h).2 (q.itm E) (List.mem_cons_of_mem _ (List.mem_map_of_mem (List.mem_of_getElem? hq)))
  exact rowP.sl h0
theorem setQ_at {us : List SRec} {l : List Nat} (h : us.map SRec.w = l) {n : Nat} {w : Nat} (hw : l[n]? = some w) : ∃ q, us[n]? = some q ∧ q.w = w := by
  rw [← h, List.getElem?_map] at hw
  cases hq : us[n]? with
  | none => rw [hq] at hw; cases hw
  | some q => rw [hq] at hw; exact ⟨q, rfl, Option.some.inj hw⟩
def toL (d : DFA) (v : Nat) (l : List Nat) (x : Nat) : List Nat := l.flatMap fun s => [toN d s (c0 v x), toN d s (c1 v x)]
theorem toL_snoc (d : DFA) (v : Nat) (l : List Nat) (s x : Nat) : toL d v (l ++ [s]) x = toL d v l x ++ [toN d s (c0 v x)] ++ [toN d s (c1 v x)] := by simp [toL]
theorem toL_len (d : DFA) (v : Nat) (l : List Nat) (x : Nat) : (toL d v l x).length = 2 * l.length := by
  induction l with
  | nil => rfl
  | cons a l ih => simp only [toL, List.flatMap_cons, List.length_append, List.length_cons, List.length_nil] at ih ⊢; omega
theorem pst_toL (d : DFA) (v w x : Nat) : mOf (toL d v (elN w) x) = pst d v w x := rfl
def toJ (d : DFA) (v : Nat) (l : List Nat) (s x i : Nat) : List Nat := toL d v l x ++ [toN d s (c0 v x), toN d s (c1 v x)].take i
theorem toJ_zero (d : DFA) (v : Nat) (l : List Nat) (s x : Nat) : toJ d v l s x 0 = toL d v l x := by simp [toJ]
theorem toJ_step {d : DFA} {v : Nat} {l : List Nat} {s x i y : Nat} (h : i = 0 ∧ y = c0 v x ∨ i = 1 ∧ y = c1 v x) : toJ d v l s x i ++ [toN d s y] = toJ d v l s x (i + 1) := by
  rcases h with ⟨rfl, rfl⟩ | ⟨rfl, rfl⟩ <;> simp [toJ]
theorem toJ_two {d : DFA} {v : Nat} {l : List Nat} {s x j : Nat} (h : l[j]? = some s) : toJ d v (l.take j) s x 2 = toL d v (l.take (j + 1)) x := by
  obtain ⟨hj, rfl⟩ := List.getElem?_eq_some_iff.1 h
  rw [List.take_succ_eq_append_getElem hj, toL_snoc]; simp [toJ]
theorem toJ_len {d : DFA} {v : Nat} {l : List Nat} {s x i : Nat} (h : i ≤ 2) : (toJ d v l s x i).length = 2 * l.length + i := by
  unfold toJ; rw [List.length_append, toL_len, List.length_take]; simp; omega
theorem Gd.toL {d : DFA} (hv : Val d) {v w x : Nat} (hvv : v < d.vars.toNat) (h : Gd d w) (hx : x < letN d) (hn : d.next.length ≤ 64) : (∀ q ∈ toL d v (elN w) x, q < 64) ∧ Lx.toL d v (elN w) x ≠ [] := by
  refine ⟨fun q hq => ?_, fun e => ?_⟩
  · obtain ⟨s, hs, hq⟩ := List.mem_flatMap.1 hq
    simp only [List.mem_cons, List.not_mem_nil, or_false] at hq
    have h0 : c0 v x < letN d := c0_lt hx
    have h1 : c1 v x < letN d := c1_lt (letN6 hv) hvv hx
    rcases hq with rfl | rfl
    · have := (hv.toN_lt (h.st hs) h0).1; omega
    · have := (hv.toN_lt (h.st hs) h1).1; omega
  · have h2 := toL_len d v (elN w) x
    rw [e] at h2
    have := List.length_pos_iff.2 (h.ne hn)
    simp at h2; omega
end Go.Lx


namespace Go.Lx
theorem ign_no {m : DFA} {v s x y : Nat} (hv : v < m.vars.toNat) (h6 : m.vars.toNat ≤ 6) (hs : s < m.next.length) (hx : x < letN m) (hy : y = c0 v x ∨ y = c1 v x) (hne : toN m s y ≠ toN m s x) : ignB m v = false := by
  cases hb : ignB m v with
  | false => rfl
  | true =>
    have hi := ignB_iff.1 hb s hs
    have hx64 : x < 64 := by
      have : 2 ^ m.vars.toNat ≤ 2 ^ 6 := Nat.pow_le_pow_right (by decide) h6
      unfold letN at hx; omega
    rcases hy with rfl | rfl
    · exact absurd (hi x hx) hne
    · have h1 := hi _ (c1_lt h6 hv hx)
      rw [(c00 v (by omega) x hx64).2.1, hi x hx] at h1
      exact absurd h1.symm hne
theorem ign_yes {m : DFA} {v : Nat} (h : ∀ s, s < m.next.length → ∀ x, x < letN m → toN m s (c0 v x) = toN m s x) : ignB m v = true := ignB_iff.2 h
theorem igV_bad {d : DFA} {v : Int} (h : vE d v ≠ 0) : igV d v = false := by unfold igV; rw [decide_eq_false h]; rfl
theorem igV_ok {d : DFA} {v : Int} (h : vE d v = 0) : igV d v = ignB (minD d) v.toNat := by unfold igV; rw [decide_eq_true h]; rfl
theorem notV_eq {d : DFA} : opV notB d d = minV (flipD d) := by
  by_cases h : checkD d = 0
  · have hv := checkD_zero.1 h
    rw [minV_valid (flip_valid hv), opV_ok (wrongD_zero.2 ⟨hv, hv, rfl⟩)]
    refine (opD_ofW hv.toVal hv.toVal rfl (flip_val hv.toVal) rfl fun w hw => ?_).symm
    rw [flip_acc hv.toVal hw]
    cases acc d w <;> rfl
  · have h2 : checkD (flipD d) ≠ 0 := fun e => h (by
      have hv := checkD_zero.1 e
      exact checkD_zero.2 ⟨⟨hv.v0, hv.v6, hv.n0, by have := hv.fin; simpa [flipD] using this, hv.s0, hv.s1, hv.len, hv.ok⟩, hv.n4⟩)
    rw [opV_bad (by rw [wrongD_self]; exact h)]
    unfold minV; rw [if_neg h2]; rfl
theorem alE_bad {d : DFA} {v B : Int} (h : checkD d ≠ 0) : alE d v B = checkD d ∧ alV d v B = noD := by
  have e : alE d v B = checkD d := by unfold alE; rw [if_pos h]
  exact ⟨e, by unfold alV; rw [if_neg (by rw [e]; exact h)]⟩
theorem alE_val {d : DFA} (hv : Valid d) {v B : Int} : alE d v B = xsE (minD (flipD d)) v B := by unfold alE; rw [if_neg (by rw [checkD_zero.2 hv]; decide)]
theorem xsV_valid {d : DFA} (hn : d.next.length ≤ 64) {v B : Int} (he : xsE d v B = 0) : Valid (xsV d v B) ∧ (xsV d v B).next.length ≤ 4096 := by
  obtain ⟨h1, h2, h3, h4⟩ := xsE_zero he
  obtain ⟨hv, _, _⟩ := vE_zero.1 h1
  have hm := MinL.xsV (HasL.of hv (Nat.le_refl _)) hn he
  exact ⟨hm.valid, hm.valid.n4⟩
theorem drE_bad {d : DFA} {v : Int} (h : vE d v ≠ 0) : drE d v = vE d v ∧ drV d v = noD := by
  have e : drE d v = vE d v := by unfold drE; rw [if_pos h]
  exact ⟨e, by unfold drV; rw [if_neg (by rw [e]; exact h)]⟩
theorem drE_no {d : DFA} {v : Int} (h : vE d v = 0) (hi : igV d v = false) : drE d v = 7 ∧ drV d v = noD := by
  have e : drE d v = 7 := by unfold drE; rw [if_neg (by omega), hi]; rfl
  exact ⟨e, by unfold drV; rw [if_neg (by omega)]⟩
theorem drE_ok {d : DFA} {v : Int} (h : vE d v = 0) (hi : igV d v = true) : drE d v = 0 ∧ drV d v = minD (reD d (d.vars - 1) (drp v.toNat)) := by
  have e : drE d v = 0 := by unfold drE; rw [if_neg (by omega), hi]; rfl
  exact ⟨e, by unfold drV; rw [if_pos e]⟩
theorem sortZ_len (l : List Int) : (sortZ l).length = l.length := List.length_mergeSort l
theorem upTo_at {n i : Nat} (h : i < n) : (upTo n)[i]? = some (i : Int) := by unfold upTo; rw [List.getElem?_map, List.getElem?_range h]; rfl
theorem sort_ne {l : List Int} {i : Nat} {x : Int} (hi : i < l.length) (h : (sortZ l)[i]? = some x) (hx : x ≠ (i : Int)) : sortZ l ≠ upTo l.length := fun e => by
  rw [e, upTo_at hi] at h
  exact hx (Option.some.inj h).symm
theorem sort_eq {l : List Int} (h : ∀ j, j < l.length → (sortZ l)[j]? = some (j : Int)) : sortZ l = upTo l.length := by
  apply List.ext_getElem?
  intro j
  by_cases hj : j < l.length
  · rw [h j hj, upTo_at hj]
  · rw [List.getElem?_eq_none (by rw [sortZ_len]; omega), List.getElem?_eq_none (by simp [upTo]; omega)]
theorem rn_no {d : DFA} (hv : Valid d) {l : List Int} (h : sortZ l ≠ upTo l.length ∨ (l.length : Int) ≠ d.vars) : rnE d l = 7 ∧ rnV d l = noD := by
  have hp : permB l d.vars = false := by
    cases hb : permB l d.vars with
    | false => rfl
    | true =>
      unfold permB at hb
      rw [Bool.and_eq_true, decide_eq_true_eq, decide_eq_true_eq] at hb
      rcases h with h | h
      · exact absurd hb.2 h
      · exact absurd hb.1 h
  have e : rnE d l = 7 := by unfold rnE; rw [checkD_zero.2 hv, if_neg (by decide), hp]; rfl
  exact ⟨e, by unfold rnV; rw [if_neg (by omega)]⟩
theorem rn_yes {d : DFA} (hv : Valid d) {l : List Int} (h : sortZ l = upTo l.length) (h2 : (l.length : Int) = d.vars) : rnE d l = 0 ∧ rnV d l = minD (reD d d.vars fun y => imF (natL l) y l.length) ∧ PermN (natL l) l.length ∧ ints l = intN (natL l) := by
  have hp : permB l d.vars = true := by unfold permB; rw [decide_eq_true h2, decide_eq_true h]; rfl
  have e : rnE d l = 0 := by unfold rnE; rw [checkD_zero.2 hv, if_neg (by decide), if_pos hp]
  have hz := (sort_iff.1 h).nat
  refine ⟨e, by unfold rnV; rw [if_pos e], hz.1, ?_⟩
  conv => lhs; rw [hz.2]
  simp [List.map_map]
theorem rn_bad {d : DFA} {l : List Int} (h : checkD d ≠ 0) : rnE d l = checkD d ∧ rnV d l = noD := by
  have e : rnE d l = checkD d := by unfold rnE; rw [if_pos h]
  exact ⟨e, by unfold rnV; rw [if_neg (by rw [e]; exact h)]⟩
theorem natL_len (l : List Int) : (natL l).length = l.length := by simp [natL]
end Go.Lx


namespace Go.Lx
end Go.Lx


namespace Go.Proofs.YtohkmggbfcnapaaGreatDoor
open Go.Lx Go.RowKit _root_.Go.Proofs.Tryz
end Go.Proofs.YtohkmggbfcnapaaGreatDoor


namespace Go.Proofs.YtohkmggbfcnapaaGreatDoor
open Go.Lx Go.RowKit _root_.Go.Proofs.Tryz
end Go.Proofs.YtohkmggbfcnapaaGreatDoor


namespace Go.Proofs.YtohkmggbfcnapaaGreatDoor
open Go.Lx Go.RowKit _root_.Go.Proofs.Tryz
end Go.Proofs.YtohkmggbfcnapaaGreatDoor


namespace Go.Proofs.YtohkmggbfcnapaaGreatDoor
open Go.Lx Go.RowKit _root_.Go.Proofs.Tryz
end Go.Proofs.YtohkmggbfcnapaaGreatDoor


namespace Go.Proofs.YtohkmggbfcnapaaGreatDoor
open Go.Lx Go.RowKit _root_.Go.Proofs.Tryz
end Go.Proofs.YtohkmggbfcnapaaGreatDoor


namespace Go.Proofs.YtohkmggbfcnapaaGreatDoor
open Go.Lx Go.RowKit _root_.Go.Proofs.Tryz
end Go.Proofs.YtohkmggbfcnapaaGreatDoor


namespace Go.Lx
open Go.RowKit
def reR (a : DFA) (L : Nat) (im : Nat → Nat) (s : Nat) : List Int := (List.range (L)).map fun x => ((toN a s (im x) : Nat) : Int)
def reP (a : DFA) (L : Nat) (im : Nat → Nat) (s x : Nat) : List Int := (List.range (L)).map fun y => if y < x then ((toN a s (im y) : Nat) : Int) else 0
theorem reR_len (a : DFA) (L : Nat) (im : Nat → Nat) (s : Nat) : (reR a L im s).length = L := by simp [reR]
theorem reP_len (a : DFA) (L : Nat) (im : Nat → Nat) (s x : Nat) : (reP a L im s x).length = L := by simp [reP]
theorem reP_zero (a : DFA) (L : Nat) (im : Nat → Nat) (s : Nat) : List.replicate (L) (Value.int .i64 0) = ints (reP a L im s 0) := by
  apply List.ext_getElem (by simp [reP])
  intro i h1 h2
  simp [reP]
theorem reP_full (a : DFA) (L : Nat) (im : Nat → Nat) (s : Nat) : reP a L im s (L) = reR a L im s := by
  unfold reP reR
  refine List.map_congr_left fun y hy => ?_
  rw [if_pos (List.mem_range.1 hy)]
theorem reP_set {a : DFA} {L : Nat} {im : Nat → Nat} {s x : Nat} (hx : x < L) : (reP a L im s x).set x ((toN a s (im x) : Nat) : Int) = reP a L im s (x + 1) := by
  apply List.ext_getElem (by simp [reP])
  intro i h1 h2
  rw [List.getElem_set]
  simp only [reP, List.getElem_map, List.getElem_range]
  by_cases e : x = i
  · subst e; simp
  · by_cases h : i < x
    · rw [if_neg e, if_pos h, if_pos (by omega)]
    · rw [if_neg e, if_neg h, if_neg (by omega)]
theorem re_next (a : DFA) (m L : Nat) (im : Nat → Nat) (hL : 2 ^ m = L) : (reD a (m : Int) im).next = (List.range a.next.length).map (reR a L im) := by subst hL; rfl
end Go.Lx


namespace Go.Proofs.YtohkmggbfcnapaaGreatDoor
open Go.Lx Go.RowKit _root_.Go.Proofs.Tryz
end Go.Proofs.YtohkmggbfcnapaaGreatDoor


namespace Go.Lx
open Go.RowKit
theorem perm_no {l : List Int} {n : Int} (h : ¬ (PermZ l n.toNat ∧ 0 ≤ n)) : permB l n = false := by
  cases hb : permB l n with
  | false => rfl
  | true => exact absurd (permB_iff.1 hb) h
end Go.Lx


namespace Go.Proofs.YtohkmggbfcnapaaGreatDoor
open Go.Lx Go.RowKit _root_.Go.Proofs.Tryz
end Go.Proofs.YtohkmggbfcnapaaGreatDoor


namespace Go.Proofs.YtohkmggbfcnapaaGreatDoor
open Go.Lx Go.RowKit _root_.Go.Proofs.Tryz
end Go.Proofs.YtohkmggbfcnapaaGreatDoor


namespace Go.Proofs.YtohkmggbfcnapaaGreatDoor
open Go.Lx Go.RowKit _root_.Go.Proofs.Tryz
theorem dropF (base : World) [Tab Tryz.prog base] (lb v x : Nat) (hv : v < 6) (hx : x < 32) :
    CallT Tryz.prog base 63 [.int .u8 ((x : Nat) : Int), .pointer (some ⟨lb, 0, none⟩)] [oI lb 5 [(.int .u8 ((2 ^ v - 1 : Nat) : Int))]] (fun r O' => r = .int .u8 ((drp v x : Nat) : Int) ∧ O' = [oI lb 5 [(.int .u8 ((2 ^ v - 1 : Nat) : Int))]]) := by
  refine CallT.enter func63 rfl ntmps63 rfl ?_
  have hp : 2 ^ v ≤ 2 ^ 5 := Nat.pow_le_pow_right (by decide) (by omega)
  have h1 : x &&& (2 ^ v - 1) ≤ x := Nat.and_le_left
  have h2 : x &&& (255 - (2 ^ v - 1)) ≤ x := Nat.and_le_left
  have h3 : (x >>> 1) &&& (255 - (2 ^ v - 1)) ≤ x >>> 1 := Nat.and_le_left
  have h4 : x >>> 1 ≤ x := by rw [Nat.shiftRight_eq_div_pow]; omega
  refine T.s (T.rg ?_)
  refine TO.qa rfl ?_
  refine TO.nl (T.s (T.rg ?_))
  refine TO.qm rfl (TO.q (q_lb 0 underlying5 rfl rfl rfl rfl) (TO.q (q_and (a := x) (b := 2 ^ v - 1) .u8 rfl rfl (by simp only [IntKind.bits]; omega) (by simp only [IntKind.bits]; omega)) (TO.qm rfl ?_)))
  refine TO.q (q_lb 0 underlying5 rfl rfl rfl rfl) (TO.q (q_andNot8 (a := x) (b := 2 ^ v - 1) rfl rfl (by omega) (by omega)) (TO.q (q_shlU (a := x &&& (255 - (2 ^ v - 1))) (b := 1) .u8 rfl rfl (by decide) (by simp only [IntKind.bits]; omega)) (TO.q (QT.cast (q_or (a := x &&& (2 ^ v - 1)) (b := (x &&& (255 - (2 ^ v - 1))) * 2 ^ 1) .u8 rfl rfl (by simp only [IntKind.bits]; omega) (by simp only [IntKind.bits]; omega)) (v' := .int .u8 ((drp v x : Nat) : Int)) (by rw [drp_prog2 v hv x hx])) ?_)))
  refine TO.qa rfl ?_
  refine TO.nl (T.ret ?_)
  refine Res.one (.int .u8 ((drp v x : Nat) : Int)) Tryz.results63 rfl ?_
  exact ⟨rfl, rfl⟩
theorem insF (base : World) [Tab Tryz.prog base] (lb v x : Nat) (hv : v < 6) (hx : x < 64) :
    CallT Tryz.prog base 64 [.int .u8 ((x : Nat) : Int), .pointer (some ⟨lb, 0, none⟩)] [oI lb 5 [(.int .u8 ((2 ^ v - 1 : Nat) : Int))]] (fun r O' => r = .int .u8 ((cut v x : Nat) : Int) ∧ O' = [oI lb 5 [(.int .u8 ((2 ^ v - 1 : Nat) : Int))]]) := by
  refine CallT.enter func64 rfl ntmps64 rfl ?_
  have hp : 2 ^ v ≤ 2 ^ 5 := Nat.pow_le_pow_right (by decide) (by omega)
  have h1 : x &&& (2 ^ v - 1) ≤ x := Nat.and_le_left
  have h2 : x &&& (255 - (2 ^ v - 1)) ≤ x := Nat.and_le_left
  have h3 : (x >>> 1) &&& (255 - (2 ^ v - 1)) ≤ x >>> 1 := Nat.and_le_left
  have h4 : x >>> 1 ≤ x := by rw [Nat.shiftRight_eq_div_pow]; omega
  refine T.s (T.rg ?_)
  refine TO.qa rfl ?_
  refine TO.nl (T.s (T.rg ?_))
  refine TO.qm rfl (TO.q (q_lb 0 underlying5 rfl rfl rfl rfl) (TO.q (q_and (a := x) (b := 2 ^ v - 1) .u8 rfl rfl (by simp only [IntKind.bits]; omega) (by simp only [IntKind.bits]; omega)) (TO.qm rfl ?_)))
  refine TO.q (q_shr (a := x) (b := 1) .u8 rfl rfl (by simp only [IntKind.bits]; omega) (by decide)) (TO.q (q_lb 0 underlying5 rfl rfl rfl rfl) (TO.q (q_andNot8 (a := x >>> 1) (b := 2 ^ v - 1) rfl rfl (by omega) (by omega)) (TO.q (QT.cast (q_or (a := x &&& (2 ^ v - 1)) (b := (x >>> 1) &&& (255 - (2 ^ v - 1))) .u8 rfl rfl (by simp only [IntKind.bits]; omega) (by simp only [IntKind.bits]; omega)) (v' := .int .u8 ((cut v x : Nat) : Int)) (by rw [cut_prog v hv x hx])) ?_)))
  refine TO.qa rfl ?_
  refine TO.nl (T.ret ?_)
  refine Res.one (.int .u8 ((cut v x : Nat) : Int)) Tryz.results64 rfl ?_
  exact ⟨rfl, rfl⟩
theorem renF (base : World) [Tab Tryz.prog base] (pb pc y : Nat) (pp : Option Addr) (l : List Nat) (hs : Sl base pp (intN l)) (hl : ∀ p ∈ l, p < 6) (h6 : l.length ≤ 6) (hy : y < 64) :
    CallT Tryz.prog base 67 [.int .u8 ((y : Nat) : Int), .pointer (some ⟨pb, 0, none⟩)] [oI pb 37 [(.slice pp l.length pc)]] (fun r O' => r = .int .u8 ((imF l y l.length : Nat) : Int) ∧ O' = [oI pb 37 [(.slice pp l.length pc)]]) := by
  refine CallT.enter func67 rfl ntmps67 rfl ?_
  refine T.s (T.rg ?_)
  refine TO.qa rfl ?_
  refine TO.nl (T.s (T.s (T.rg ?_)))
  refine TO.q (q_lb 0 underlying37 rfl rfl rfl rfl) (TO.q (q_len underlying37 rfl) (TO.qm rfl ?_))
  refine TO.nl (T.block ?_)
  refine T.loop (fun (i : Nat) ρ O => O = [oI pb 37 [(.slice pp l.length pc)]] ∧ i ≤ l.length ∧ Heads [(0, .int .u8 ((y : Nat) : Int)), (1, (.pointer (some ⟨pb, 0, none⟩))), (3, .int .u8 ((imF l y i : Nat) : Int)), (6, (.slice pp l.length pc)), (7, .int .i64 (l.length : Int)), (8, .int .i64 ((i : Nat) : Int))] ρ) (fun i => l.length - i) 0 ?_ ?_
  · exact ⟨rfl, Nat.zero_le _, ⟨rfl, rfl, rfl, rfl, rfl, rfl, trivial⟩⟩
  rintro i ρ O ⟨rfl, hi, hH⟩
  obtain ⟨ρ0, rfl⟩ := hH.elim
  clear hH
  refine T.s (T.rg ?_)
  refine TO.q (q_lss rfl rfl) ?_
  refine TO.nl (T.s ?_)
  refine T.condP rfl (fun hc => ?_) (fun hc => ?_)
  · have hlt9 : i < l.length := by omega
    have hil : i < l.length := by omega
    have hpl := hl _ (List.getElem_mem hil)
    have hgd : l.getD i 0 = l[i] := by rw [List.getD_eq_getElem?_getD, List.getElem?_eq_getElem hil]; rfl
    have hst := imF_step l y i
    have hb1 := imF_256 l y (show i ≤ 6 by omega)
    have hb2 := bit_256 y l[i] (show i < 6 by omega)
    have hb3 : y >>> l[i] ≤ y := by rw [Nat.shiftRight_eq_div_pow]; exact Nat.div_le_self _ _
    have hb4 : (y >>> l[i]) &&& 1 ≤ y >>> l[i] := Nat.and_le_left
    rw [hgd] at hst
    refine T.skip (T.s (T.block (T.s (T.rg ?_))))
    refine TO.qm rfl (TO.q (q_ix (i := i) underlying37 inf3 rfl rfl (Sl.o hs) hil (by rw [List.length_map]; exact hil)) (TO.q (q_ld underlying3 rfl rfl (Sl.o hs) (intN_get hil)) (TO.qa rfl ?_)))
    refine TO.qa rfl ?_
    refine TO.nl (T.rg ?_)
    refine TO.qm rfl (TO.qm rfl (TO.qm rfl (TO.q (q_shr (a := y) (b := l[i]) .u8 rfl rfl (by simp only [IntKind.bits]; omega) (by simp only [IntKind.bits]; omega)) ?_)))
    refine TO.q (q_and (a := y >>> l[i]) (b := 1) .u8 rfl rfl (by simp only [IntKind.bits]; omega) (by decide)) (TO.qm rfl (TO.q (q_shlU (a := (y >>> l[i]) &&& 1) (b := i) .u8 rfl rfl (by simp only [IntKind.bits]; omega) (by simp only [IntKind.bits]; omega)) (TO.q (QT.cast (q_or (a := imF l y i) (b := ((y >>> l[i]) &&& 1) * 2 ^ i) .u8 rfl rfl (by simp only [IntKind.bits]; omega) (by simp only [IntKind.bits]; omega)) (v' := .int .u8 ((imF l y (i + 1) : Nat) : Int)) (by rw [hst])) ?_)))
    refine TO.qa rfl ?_
    refine TO.nl (T.rg ?_)
    refine TO.q (q_addN (a := i) (b := 1) rfl rfl (by omega)) (TO.qm rfl ?_)
    refine TO.nl ?_
    exact ⟨i + 1, by omega, rfl, by omega, ⟨rfl, rfl, rfl, rfl, rfl, rfl, trivial⟩⟩
  have hge9 : ¬ i < l.length := by omega
  refine T.exit ?_
  refine T.s (T.rg ?_)
  refine TO.qm rfl (TO.qa rfl ?_)
  refine TO.nl (T.ret ?_)
  refine Res.one (.int .u8 ((imF l y i : Nat) : Int)) Tryz.results67 rfl ?_
  have hie : i = l.length := by omega
  subst hie
  exact ⟨rfl, rfl⟩
end Go.Proofs.YtohkmggbfcnapaaGreatDoor


namespace Go.Proofs.YtohkmggbfcnapaaGreatDoor
open Go.Lx Go.RowKit _root_.Go.Proofs.Tryz
theorem cloneNilB (w : World) [Tab Tryz.prog w] (c : Nat) :
    PureT Tryz.prog 89 [.slice none 0 c] w fun v N => ∃ b' c', v = .slice b' 0 c' ∧ N = [rowI b' c' 4 1 []] := by
  refine CallT.enter func89 rfl ntmps89 rfl ?_
  refine T.s (T.rg ?_)
  refine TO.qa rfl ?_
  refine TO.nl (T.s (T.s (T.rg ?_)))
  refine TO.qm rfl (TO.q (q_eqlNil underlying23 rfl rfl) ?_)
  refine TO.nl ?_
  refine T.cond1 rfl ?_
  refine T.s ?_
  refine T.nilRow 4 1 ?_
  refine T.rg ?_
  refine TO.qa rfl ?_
  refine TO.nl (T.ret ?_)
  refine Res.one (.slice none 0 0) Tryz.results89 rfl ?_
  exact ⟨_, _, rfl, rfl⟩
theorem cloneSomeB (w : World) [Tab Tryz.prog w] (a : Addr) (c : Nat) (xs : List Bool) (h1 : Sl w (some a) (bools xs)) (hb : xs.length * 1 ≤ 70368744177664) :
    PureT Tryz.prog 89 [.slice (some a) xs.length c] w fun v N => ∃ b' c', v = .slice b' xs.length c' ∧ N = [rowI b' c' 4 1 (bools xs)] := by
  refine CallT.enter func89 rfl ntmps89 rfl ?_
  refine T.s (T.rg ?_)
  refine TO.qa rfl ?_
  refine TO.nl (T.s (T.s (T.rg ?_)))
  refine TO.qm rfl (TO.q (q_eqlNil underlying23 rfl rfl) ?_)
  refine TO.nl ?_
  refine T.cond0 rfl ?_
  refine T.skip (T.s (T.rg ?_))
  refine TO.l rfl (l_buildSlice (m := 0) (parts := []) (cs := []) underlying23 inf4 (by decide) (by simp [Instr.fill]) rfl (fun b1 => ?_))
  refine TO.qm rfl ?_
  refine TO.l rfl (l_append 0 underlying23 underlying23 inf4 rfl rfl rfl rfl (by simp) (by decide) (Src.sl h1 (by simp)) (bools_one xs) (by omega) (by decide) (by decide) (fun b1 c2 => ?_))
  refine TO.qa rfl ?_
  refine TO.nl (T.ret ?_)
  refine Res.one (.slice b1 (0 + xs.length) c2) Tryz.results89 rfl ?_
  exact ⟨_, _, by rw [Nat.zero_add], rfl⟩
theorem cloneB (w : World) [Tab Tryz.prog w] (b : Option Addr) (c : Nat) (xs : List Bool) (h1 : Sl w b (bools xs)) (hb : xs.length * 1 ≤ 70368744177664) :
    PureT Tryz.prog 89 [.slice b xs.length c] w fun v N => ∃ b' c', v = .slice b' xs.length c' ∧ N = [rowI b' c' 4 1 (bools xs)] := by
  cases b with
  | none =>
    have hx : xs = [] := by
      cases xs with
      | nil => rfl
      | cons x xs => obtain ⟨_, _, e⟩ := h1.addr (i := 0) (by simp); cases e
    subst hx
    exact cloneNilB w c
  | some a => exact cloneSomeB w a c xs h1 hb
theorem rebF (base : World) [Tab Tryz.prog base] (a : DFA) (k : DK) (ha : At base a k) (hv : Valid a) (m : Nat) (h6 : m ≤ 6) (L : Nat) (hL : 2 ^ m = L) (im : Nat → Nat) (him : ∀ x, x < L → im x < letN a) (gv : Value) (IT : List Lx.Item) (hg : ∀ x, x < L → CallV Tryz.prog base gv [.int .u8 ((x : Nat) : Int)] IT (fun r O' => r = .int .u8 ((im x : Nat) : Int) ∧ O' = IT)) {M : DFA} (hM : minD (reD a (m : Int) im) = M) :
    CallT Tryz.prog base 62 [dV a k, .int .i64 ((m : Nat) : Int), gv] IT (fun r O' => ∃ k' : DK, r = .tuple #[dV M k', .int .i64 0] ∧ O' = [dI 37 4 3 M k']) := by
  refine CallT.enter func62 rfl ntmps62 rfl ?_
  have he := checkD_zero.2 hv
  have h4 := hv.n4
  have hww : letN a ≤ 64 := hv.width
  have hfin := hv.fin
  have hvl := ha.rows.1
  have hsl := start_lt hv.toVal
  have hs0 := hv.s0
  have hs1 := hv.s1
  have hm64 : L ≤ 2 ^ 6 := by rw [← hL]; exact Nat.pow_le_pow_right (by decide) h6
  refine T.s (T.rg ?_)
  refine TO.l rfl (l_box (v := (dV a k)) (cs := (dC a k)) rfl rfl (fun z1 => ?_))
  refine TO.l rfl (l_alloc inf25 rfl (fun z2 => ?_))
  refine TO.qa rfl ?_
  refine TO.nl ?_
  refine T.cut (fun ρ O => ∃ (tb cc : Nat) (cb : Option Addr), O = ([oI tb 25 [(.int .i64 ((m : Nat) : Int)), (.int .i64 a.start), (.slice none 0 0), (.slice cb a.final.length cc)], rowI cb cc 4 1 (bools a.final), oI z2 25 [(.int .i64 0), (.int .i64 0), (.slice none 0 0), (.slice none 0 0)], oI z1 25 (dC a k)] ++ IT) ∧ Heads [(0, (dV a k)), (1, (.int .i64 ((m : Nat) : Int))), (2, gv), (3, (.pointer (some ⟨z1, 0, none⟩))), (6, (.pointer (some ⟨z2, 0, none⟩))), (7, .int .i64 0), (8, (.pointer (some ⟨tb, 0, none⟩)))] ρ) ?_ ?_
  · refine T.tree [oI z2 25 [(.int .i64 0), (.int .i64 0), (.slice none 0 0), (.slice none 0 0)], oI z1 25 (dC a k)] 9 mixed rfl (by exact Sub.k (.k .z)) (fun _ _ _ h => h) ?_
    refine RO.quietT 0 rfl (by kernel_rfl) (q_move rfl) ?_
    refine RO.quietT 1 rfl (by kernel_rfl) (q_fa underlying25 rfl inf3 rfl rfl) ?_
    refine RO.quietT 2 rfl (by kernel_rfl) (q_lb 1 underlying3 rfl rfl rfl rfl) ?_
    refine RO.quietT 3 rfl (by kernel_rfl) (q_fa underlying25 rfl inf23 rfl rfl) ?_
    refine RO.quietT 4 rfl (by kernel_rfl) (q_lb 1 underlying23 rfl rfl rfl rfl) ?_
    have hk18 := fun (w1 : World) (hI : Inv base ([oI z2 25 [(.int .i64 0), (.int .i64 0), (.slice none 0 0), (.slice none 0 0)], oI z1 25 (dC a k)] ++ IT) w1) => (haveI := tbz hI; cloneB w1 k.fb k.fc a.final (hI.sl ha.final) (by omega))
    refine RO.fork [5, 7] (by kernel_rfl) rfl ⟨⟨_, rfl, rfl, l_call ent89 (CallT.op hk18) rfl ?_⟩, ⟨_, rfl, rfl, l_alloc inf25 rfl (fun tb => ⟨by exact Sub.d (.k (.k .z)), ?_⟩)⟩, trivial⟩
    · clear hk18
      rintro vr O' ⟨N, rfl, cb, cc, rfl, rfl⟩
      refine ⟨by exact Sub.d (.k (.k .z)), ?_⟩
      refine RO.quietT 6 rfl (by kernel_rfl) (q_build (cs := [(.int .i64 ((m : Nat) : Int)), (.int .i64 a.start), (.slice none 0 0), (.slice cb a.final.length cc)]) plan25 inf25 (by kernel_rfl)) ?_
      refine RO.fork [7] (by kernel_rfl) rfl ⟨⟨_, rfl, rfl, l_alloc inf25 rfl (fun tb => ⟨by exact Sub.d (.d (.k (.k .z))), ?_⟩)⟩, trivial⟩
      refine RO.fork [8] (by kernel_rfl) rfl ⟨⟨_, rfl, rfl, l_sb (v := (.agg #[(.int .i64 ((m : Nat) : Int)), (.int .i64 a.start), (.slice none 0 0), (.slice cb a.final.length cc)])) (vs := [(.int .i64 ((m : Nat) : Int)), (.int .i64 a.start), (.slice none 0 0), (.slice cb a.final.length cc)]) 0 inf25 rfl rfl rfl rfl rfl rfl (by simp [putL]) ⟨by exact Sub.d (.d (.k (.k .z))), ?_⟩⟩, trivial⟩
      exact RO.fin (by kernel_rfl) ⟨tb, cc, cb, rfl, ⟨rfl, rfl, rfl, rfl, rfl, rfl, rfl, trivial⟩⟩ (by exact Sub.rf)
    have hk18 := fun (w1 : World) (hI : Inv base ([oI tb 25 [(.int .i64 0), (.int .i64 0), (.slice none 0 0), (.slice none 0 0)], oI z2 25 [(.int .i64 0), (.int .i64 0), (.slice none 0 0), (.slice none 0 0)], oI z1 25 (dC a k)] ++ IT) w1) => (haveI := tbz hI; cloneB w1 k.fb k.fc a.final (hI.sl ha.final) (by omega))
    refine RO.fork [5] (by kernel_rfl) rfl ⟨⟨_, rfl, rfl, l_call ent89 (CallT.op hk18) rfl ?_⟩, trivial⟩
    clear hk18
    rintro vr O' ⟨N, rfl, cb, cc, rfl, rfl⟩
    refine ⟨by exact Sub.d (.d (.k (.k .z))), ?_⟩
    refine RO.quietT 6 rfl (by kernel_rfl) (q_build (cs := [(.int .i64 ((m : Nat) : Int)), (.int .i64 a.start), (.slice none 0 0), (.slice cb a.final.length cc)]) plan25 inf25 (by kernel_rfl)) ?_
    refine RO.fork [8] (by kernel_rfl) rfl ⟨⟨_, rfl, rfl, l_sb (v := (.agg #[(.int .i64 ((m : Nat) : Int)), (.int .i64 a.start), (.slice none 0 0), (.slice cb a.final.length cc)])) (vs := [(.int .i64 ((m : Nat) : Int)), (.int .i64 a.start), (.slice none 0 0), (.slice cb a.final.length cc)]) 1 inf25 rfl rfl rfl rfl rfl rfl (by simp [putL]) ⟨by exact Sub.d (.d (.k (.k .z))), ?_⟩⟩, trivial⟩
    exact RO.fin (by kernel_rfl) ⟨tb, cc, cb, rfl, ⟨rfl, rfl, rfl, rfl, rfl, rfl, rfl, trivial⟩⟩ (by exact Sub.pull [rowI cb cc 4 1 (bools a.final)] _ (.k (.k (.k .rf))))
  rintro ρ O ⟨tb, cc, cb, rfl, hH⟩
  obtain ⟨ρ0, rfl⟩ := hH.elim
  clear hH
  refine T.s (T.s (T.rg ?_))
  refine TO.q (q_fa underlying25 rfl inf22 rfl rfl) (TO.q (q_lb 3 underlying22 rfl rfl rfl rfl) (TO.q (q_len underlying22 rfl) (TO.qm rfl ?_)))
  refine TO.nl (T.block ?_)
  refine T.nilRow 37 1 ?_
  refine T.sub (O' := ([oI tb 25 [(.int .i64 ((m : Nat) : Int)), (.int .i64 a.start), (.slice none 0 0), (.slice cb a.final.length cc)], rowI none 0 37 1 (vals []), rowI cb cc 4 1 (bools a.final), oI z1 25 (dC a k), oI z2 25 [(.int .i64 0), (.int .i64 0), (.slice none 0 0), (.slice none 0 0)]] ++ (IT ++ itms 3 []))) (Sub.ca []) ?_
  refine T.loop (fun (s : Nat) ρ O => ∃ (nb : Option Addr) (nc : Nat) (qs : List Rec), O = ([oI tb 25 [(.int .i64 ((m : Nat) : Int)), (.int .i64 a.start), (.slice nb s nc), (.slice cb a.final.length cc)], rowI nb nc 37 1 (vals qs), rowI cb cc 4 1 (bools a.final), oI z1 25 (dC a k), oI z2 25 [(.int .i64 0), (.int .i64 0), (.slice none 0 0), (.slice none 0 0)]] ++ (IT ++ itms 3 qs)) ∧ s ≤ a.next.length ∧ qs.length = s ∧ nums qs = (List.range s).map (reR a L im) ∧ Heads [(0, (dV a k)), (1, (.int .i64 ((m : Nat) : Int))), (2, gv), (3, (.pointer (some ⟨z1, 0, none⟩))), (6, (.pointer (some ⟨z2, 0, none⟩))), (7, .int .i64 0), (8, (.pointer (some ⟨tb, 0, none⟩))), (21, (.slice k.nb a.next.length k.nc)), (22, .int .i64 (a.next.length : Int)), (23, .int .i64 ((s : Nat) : Int))] ρ) (fun s => a.next.length - s) 0 ?_ ?_
  · exact ⟨none, 0, [], rfl, Nat.zero_le _, rfl, rfl, ⟨rfl, rfl, rfl, rfl, rfl, rfl, rfl, rfl, rfl, rfl, trivial⟩⟩
  rintro s ρ O ⟨nb, nc, qs, rfl, hs, hql, hqs, hH⟩
  obtain ⟨ρ0, rfl⟩ := hH.elim
  clear hH
  refine T.s (T.rg ?_)
  refine TO.q (q_lss rfl rfl) ?_
  refine TO.nl (T.s ?_)
  refine T.condP rfl (fun hc => ?_) (fun hc => ?_)
  · have hlt24 : s < a.next.length := by omega
    have hsl9 : s < a.next.length := by omega
    obtain ⟨v1, c1, g1, s1⟩ := ha.rows.get hsl9
    have hl1 : a.next[s].length = letN a := hv.len _ (List.getElem_mem hsl9)
    refine T.skip (T.s (T.block (T.s (T.rg ?_))))
    refine TO.q (q_ix (i := s) underlying22 inf37 rfl rfl (Sl.o ha.outer) hsl9 (hvl ▸ hsl9)) (TO.q (q_ld underlying37 rfl rfl (Sl.o ha.outer) g1) (TO.qa rfl ?_))
    refine TO.nl (T.s (T.rg ?_))
    refine TO.qm rfl (TO.q (QT.cast (q_shl1 (v := m) rfl rfl (by omega)) (v' := .int .i64 ((L : Nat) : Int)) (by rw [hL])) ?_)
    refine TO.l rfl (l_makeSlice (m := L) underlying37 inf3 rfl rfl (by omega) (by omega) (fun z3 => ?_))
    refine TO.qa rfl ?_
    refine TO.nl (T.s (T.s (T.rg ?_)))
    refine TO.qm rfl (TO.q (q_len underlying37 rfl) (TO.qm rfl ?_))
    refine TO.nl (T.block ?_)
    refine T.loop (fun (x : Nat) ρ O => O = ([rowI (some ⟨z3, 0, none⟩) L 3 1 (ints (reP a L im s x)), oI tb 25 [(.int .i64 ((m : Nat) : Int)), (.int .i64 a.start), (.slice nb s nc), (.slice cb a.final.length cc)], rowI nb nc 37 1 (vals qs), rowI cb cc 4 1 (bools a.final), oI z1 25 (dC a k), oI z2 25 [(.int .i64 0), (.int .i64 0), (.slice none 0 0), (.slice none 0 0)]] ++ (IT ++ itms 3 qs)) ∧ x ≤ L ∧ Heads [(0, (dV a k)), (1, (.int .i64 ((m : Nat) : Int))), (2, gv), (3, (.pointer (some ⟨z1, 0, none⟩))), (6, (.pointer (some ⟨z2, 0, none⟩))), (7, .int .i64 0), (8, (.pointer (some ⟨tb, 0, none⟩))), (10, (.slice v1 a.next[s].length c1)), (11, (.slice (some ⟨z3, 0, none⟩) L L)), (21, (.slice k.nb a.next.length k.nc)), (22, .int .i64 (a.next.length : Int)), (23, .int .i64 ((s : Nat) : Int)), (31, .int .i64 (L : Int)), (32, .int .i64 ((x : Nat) : Int))] ρ) (fun x => L - x) 0 ?_ ?_
    · exact ⟨by rw [reP_zero]; rfl, Nat.zero_le _, ⟨rfl, rfl, rfl, rfl, rfl, rfl, rfl, rfl, rfl, rfl, rfl, rfl, rfl, rfl, trivial⟩⟩
    rintro x ρ O ⟨rfl, hx, hH⟩
    obtain ⟨ρ0, rfl⟩ := hH.elim
    clear hH
    refine T.s (T.rg ?_)
    refine TO.q (q_lss rfl rfl) ?_
    refine TO.nl (T.s ?_)
    refine T.condP rfl (fun hc => ?_) (fun hc => ?_)
    · have hlt33 : x < L := by omega
      have hxl : x < L := by omega
      have hil : im x < letN a := him x hxl
      obtain ⟨hto, _, hxk1, hx1⟩ := hv.toN_lt hsl9 hil
      have hx1 : (ints a.next[s])[im x]? = some (.int .i64 ((toN a s (im x) : Nat) : Int)) := by rw [ints_get hxk1, hx1]
      refine T.skip (T.s (T.block (T.s (T.rg ?_))))
      refine TO.qm rfl (TO.qa rfl ?_)
      refine TO.nl (T.rg ?_)
      refine TO.qm rfl (TO.qm rfl (TO.qm rfl (TO.qm rfl ?_)))
      refine TO.qm rfl (TO.q (q_conv_id underlying3 underlying5 rfl (wrap8 (by omega))) ?_)
      have hk41 := CallV.under (B := [rowI (some ⟨z3, 0, none⟩) L 3 1 (ints (reP a L im s x)), oI tb 25 [(.int .i64 ((m : Nat) : Int)), (.int .i64 a.start), (.slice nb s nc), (.slice cb a.final.length cc)], rowI nb nc 37 1 (vals qs), rowI cb cc 4 1 (bools a.final), oI z1 25 (dC a k), oI z2 25 [(.int .i64 0), (.int .i64 0), (.slice none 0 0), (.slice none 0 0)]] ++ itms 3 qs) (O := ([rowI (some ⟨z3, 0, none⟩) L 3 1 (ints (reP a L im s x)), oI tb 25 [(.int .i64 ((m : Nat) : Int)), (.int .i64 a.start), (.slice nb s nc), (.slice cb a.final.length cc)], rowI nb nc 37 1 (vals qs), rowI cb cc 4 1 (bools a.final), oI z1 25 (dC a k), oI z2 25 [(.int .i64 0), (.int .i64 0), (.slice none 0 0), (.slice none 0 0)]] ++ (IT ++ itms 3 qs))) (hg x hxl) (Sub.ca [])
      refine TO.l rfl (l_callG hk41 rfl rfl ?_)
      clear hk41
      rintro vr O' ⟨A1, rfl, rfl, hA1⟩
      have hA2 := hA1.symm
      subst hA2
      refine TO.sub (O' := ([rowI (some ⟨z3, 0, none⟩) L 3 1 (ints (reP a L im s x)), oI tb 25 [(.int .i64 ((m : Nat) : Int)), (.int .i64 a.start), (.slice nb s nc), (.slice cb a.final.length cc)], rowI nb nc 37 1 (vals qs), rowI cb cc 4 1 (bools a.final), oI z1 25 (dC a k), oI z2 25 [(.int .i64 0), (.int .i64 0), (.slice none 0 0), (.slice none 0 0)]] ++ (IT ++ itms 3 qs))) (Sub.ca []) ?_
      refine TO.q (q_ix (i := (im x)) underlying37 inf3 rfl rfl (Sl.o s1) hxk1 (by rw [List.length_map]; exact hxk1)) (TO.q (q_ld underlying3 rfl rfl (Sl.o s1) hx1) (TO.q (q_ix (i := x) underlying37 inf3 rfl rfl (rowO (mG 0 rfl)) hxl (by rw [List.length_map, reP_len]; exact hxl)) ?_))
      refine TO.l rfl (l_st (j := x) (v := .int .i64 ((toN a s (im x) : Nat) : Int)) (vs := [(.int .i64 ((toN a s (im x) : Nat) : Int))]) (cs := ints (reP a L im s x)) 0 inf3 rfl rfl rfl rfl rfl (by simp) rfl (by rw [List.length_map, reP_len]; simp; omega) ?_)
      refine TO.sub (O' := ([rowI (some ⟨z3, 0, none⟩) L 3 1 (ints (reP a L im s (x + 1))), oI tb 25 [(.int .i64 ((m : Nat) : Int)), (.int .i64 a.start), (.slice nb s nc), (.slice cb a.final.length cc)], rowI nb nc 37 1 (vals qs), rowI cb cc 4 1 (bools a.final), oI z1 25 (dC a k), oI z2 25 [(.int .i64 0), (.int .i64 0), (.slice none 0 0), (.slice none 0 0)]] ++ (IT ++ itms 3 qs))) (by rw [show putL (ints (reP a L im s x)) x [(.int .i64 ((toN a s (im x) : Nat) : Int))] = ints (reP a L im s (x + 1)) from by rw [← reP_set hxl]; simp [putL]]; exact Sub.of (List.Sublist.refl _)) ?_
      refine TO.nl (T.rg ?_)
      refine TO.q (q_addN (a := x) (b := 1) rfl rfl (by omega)) (TO.qm rfl ?_)
      refine TO.nl ?_
      exact ⟨x + 1, by omega, rfl, by omega, ⟨rfl, rfl, rfl, rfl, rfl, rfl, rfl, rfl, rfl, rfl, rfl, rfl, rfl, rfl, trivial⟩⟩
    have hge33 : ¬ x < L := by omega
    refine T.exit ?_
    refine T.rg ?_
    refine TO.q (q_fa underlying25 rfl inf22 rfl rfl) (TO.q (q_lb 1 underlying22 rfl rfl rfl rfl) (TO.qm rfl ?_))
    refine TO.l rfl (l_build1 (v := (.slice (some ⟨z3, 0, none⟩) L L)) underlying22 inf37 rfl rfl rfl (fun z4 => ?_))
    refine TO.l rfl (l_append 3 underlying22 underlying22 inf37 rfl rfl rfl rfl (by rw [List.length_map]; omega) (by decide) (Src.row (j := 0) rfl (by simp)) (by simp [oneB]) (by omega) (by decide) (by decide) (fun z5 zc6 => ?_))
    refine TO.q (q_fa underlying25 rfl inf22 rfl rfl) ?_
    refine TO.l rfl (l_sb (v := (.slice z5 (s + 1) zc6)) (vs := [(.slice z5 (s + 1) zc6)]) 2 inf22 rfl rfl rfl rfl rfl rfl (by simp [putL]) ?_)
    refine TO.sub (O' := ([oI tb 25 [(.int .i64 ((m : Nat) : Int)), (.int .i64 a.start), (.slice z5 (s + 1) zc6), (.slice cb a.final.length cc)], rowI z5 zc6 37 1 ((vals qs) ++ [(.slice (some ⟨z3, 0, none⟩) L L)]), rowI cb cc 4 1 (bools a.final), oI z1 25 (dC a k), oI z2 25 [(.int .i64 0), (.int .i64 0), (.slice none 0 0), (.slice none 0 0)], rowI (some ⟨z3, 0, none⟩) L 3 1 (ints (reP a L im s x))] ++ (IT ++ itms 3 qs))) (by exact Sub.d (.pull [rowI (some ⟨z3, 0, none⟩) L 3 1 (ints (reP a L im s x))] _ (.pull [rowI (some ⟨z3, 0, none⟩) L 3 1 (ints (reP a L im s x))] _ (.pull [rowI (some ⟨z3, 0, none⟩) L 3 1 (ints (reP a L im s x))] _ (.pull [rowI (some ⟨z3, 0, none⟩) L 3 1 (ints (reP a L im s x))] _ (.pull [rowI (some ⟨z3, 0, none⟩) L 3 1 (ints (reP a L im s x))] _ (.k .rf))))))) ?_
    refine TO.nl ?_
    have hxe : L = x := by omega
    subst hxe
    have hvq : vals (qs ++ [⟨some ⟨z3, 0, none⟩, L, reR a L im s⟩]) = vals qs ++ [.slice (some ⟨z3, 0, none⟩) L L] := by simp [Rec.val, reR_len]
    refine T.sub (O' := (([oI tb 25 [(.int .i64 ((m : Nat) : Int)), (.int .i64 a.start), (.slice z5 (s + 1) zc6), (.slice cb a.final.length cc)], rowI z5 zc6 37 1 ((vals qs) ++ [(.slice (some ⟨z3, 0, none⟩) L L)]), rowI cb cc 4 1 (bools a.final), oI z1 25 (dC a k), oI z2 25 [(.int .i64 0), (.int .i64 0), (.slice none 0 0), (.slice none 0 0)]] ++ [rowI (some ⟨z3, 0, none⟩) L 3 1 (ints (reR a L im s))]) ++ (IT ++ itms 3 qs))) (by rw [← reP_full]; exact Sub.rf) ?_
    refine T.sub (O' := ([oI tb 25 [(.int .i64 ((m : Nat) : Int)), (.int .i64 a.start), (.slice z5 (s + 1) zc6), (.slice cb a.final.length cc)], rowI z5 zc6 37 1 (vals (qs ++ [⟨some ⟨z3, 0, none⟩, L, reR a L im s⟩])), rowI cb cc 4 1 (bools a.final), oI z1 25 (dC a k), oI z2 25 [(.int .i64 0), (.int .i64 0), (.slice none 0 0), (.slice none 0 0)]] ++ (IT ++ itms 3 (qs ++ [⟨some ⟨z3, 0, none⟩, L, reR a L im s⟩])))) (by rw [hvq]; exact Sub.foldN [oI tb 25 [(.int .i64 ((m : Nat) : Int)), (.int .i64 a.start), (.slice z5 (s + 1) zc6), (.slice cb a.final.length cc)], rowI z5 zc6 37 1 ((vals qs) ++ [(.slice (some ⟨z3, 0, none⟩) L L)]), rowI cb cc 4 1 (bools a.final), oI z1 25 (dC a k), oI z2 25 [(.int .i64 0), (.int .i64 0), (.slice none 0 0), (.slice none 0 0)]] (rowI (some ⟨z3, 0, none⟩) L 3 1 (ints (reR a L im s))) (IT ++ itms 3 qs) (IT ++ itms 3 (qs ++ [⟨some ⟨z3, 0, none⟩, L, reR a L im s⟩])) (by rw [itms_snoc, List.append_assoc]; rfl)) ?_
    refine T.rg ?_
    refine TO.q (q_addN (a := s) (b := 1) rfl rfl (by omega)) (TO.qm rfl ?_)
    refine TO.nl ?_
    exact ⟨s + 1, by omega, z5, zc6, qs ++ [⟨some ⟨z3, 0, none⟩, L, reR a L im s⟩], rfl, by omega, by simp [hql], by rw [List.range_succ, List.map_append, ← hqs]; simp, ⟨rfl, rfl, rfl, rfl, rfl, rfl, rfl, rfl, rfl, rfl, trivial⟩⟩
  have hge24 : ¬ s < a.next.length := by omega
  refine T.exit ?_
  refine T.s ?_
  have hse : s = a.next.length := by omega
  obtain ⟨Tz, hT⟩ : ∃ T, T = reD a (m : Int) im := ⟨_, rfl⟩
  have e1 : nums qs = Tz.next := by rw [hT, hqs, hse, re_next a m L im hL]
  have e2 : a.final = Tz.final := by rw [hT]; rfl
  have e5 : Tz.next.length = s := by rw [hT, re_len, hse]
  have e6 : Tz.final.length = a.final.length := by rw [← e2]
  have hTv : Valid Tz := by rw [hT]; exact (HasL.re (HasL.of hv (Nat.le_refl _)) (by omega) (by omega) (fun x hx => him x (by rw [← hL]; exact hx))).valid
  obtain ⟨z9, hz9⟩ : ∃ z : DK, z = ⟨nb, nc, cb, cc, qs⟩ := ⟨_, rfl⟩
  refine T.sub (O' := (([rowI nb nc 37 1 (vals qs), rowI cb cc 4 1 (bools Tz.final)] ++ itms 3 qs) ++ [oI tb 25 [(.int .i64 ((m : Nat) : Int)), (.int .i64 a.start), (.slice nb Tz.next.length nc), (.slice cb Tz.final.length cc)], oI z1 25 (dC a k), oI z2 25 [(.int .i64 0), (.int .i64 0), (.slice none 0 0), (.slice none 0 0)]])) (by rw [e5, e6, ← e2]; exact Sub.cnt IT (by intro a; simp only [itms, oI, List.set_cons_zero, List.set_cons_succ, putL, List.cons_append, List.nil_append, List.append_nil, List.append_assoc, List.map_append, List.map_cons, List.map_nil, cnt_append, cnt_cons, cnt_nil] <;> omega)) ?_
  refine T.pack (φ := nums qs = Tz.next) e1 ?_
  refine T.sub (O' := [dI 37 4 3 Tz z9, oI tb 25 (dC Tz z9), oI z1 25 (dC a k), oI z2 25 [(.int .i64 0), (.int .i64 0), (.slice none 0 0), (.slice none 0 0)]]) (by subst hz9; unfold dC dfaCells; rw [hT]; exact Sub.rf) ?_
  refine T.rg ?_
  refine TO.q (q_la 1 underlying25 rfl inf25 rfl rfl rfl) ?_
  have hk54 := fun (w1 : World) (hI : Inv base [dI 37 4 3 Tz z9, oI tb 25 (dC Tz z9), oI z1 25 (dC a k), oI z2 25 [(.int .i64 0), (.int .i64 0), (.slice none 0 0), (.slice none 0 0)]] w1) => (haveI := tbz hI; minKE w1 Tz z9 (hI.at (k := z9) (mG 0 rfl)) hTv (by omega) (M := M) (by rw [hT]; exact hM))
  refine TO.l rfl (l_call ent34 (CallT.op hk54) rfl ?_)
  clear hk54
  rintro vr O' ⟨N, rfl, k9, rfl, rfl⟩
  refine TO.q (q_extract (vs := _) rfl rfl) (TO.q (q_extract (vs := _) rfl rfl) ?_)
  refine TO.l rfl (l_sb (v := (dV M k9)) (vs := (dC M k9)) 4 inf25 rfl rfl rfl rfl rfl rfl (by simp [putL]) ?_)
  refine TO.qa rfl ?_
  refine TO.nl (T.ret (Res.drop ?_))
  refine Res.cell1b (.int .i64 0) (i := 4) Tryz.results62 underlying25 rfl inf25 rfl rfl rfl rfl ?_
  exact ⟨[dI 37 4 3 M k9], (by exact Sub.k .z), k9, rfl, rfl⟩
end Go.Proofs.YtohkmggbfcnapaaGreatDoor


namespace Go.Proofs.YtohkmggbfcnapaaGreatDoor
open Go.Lx Go.RowKit _root_.Go.Proofs.Tryz
theorem insBad (w : World) [Tab Tryz.prog w] (a : DFA) (k : DK) (ha : At w a k) (haa : a.next.length < 9223372036854775807) (haar : ∀ r ∈ a.next, r.length < 9223372036854775807) (haaf : a.final.length < 9223372036854775807) (he : checkD a ≠ 0) (v : Int) :
    PureT Tryz.prog 27 [dV a k, .int .i64 v] w fun v9 N => v9 = .tuple #[dV noD ⟨none, 0, none, 0, []⟩, .int .i64 (checkD a : Int)] ∧ N = [] := by
  refine CallT.enter func27 rfl ntmps27 rfl ?_
  refine T.s (T.rg ?_)
  refine TO.l rfl (l_box (v := (dV a k)) (cs := (dC a k)) rfl rfl (fun bx1 => ?_))
  refine TO.l rfl (l_alloc inf25 rfl (fun bx2 => ?_))
  refine TO.qa rfl ?_
  refine TO.nl (T.s (T.s (T.rg ?_)))
  refine TO.q (q_la 1 underlying25 rfl inf25 rfl rfl rfl) ?_
  have hk9 := fun (w1 : World) (hI : Inv w [oI bx2 25 [(.int .i64 0), (.int .i64 0), (.slice none 0 0), (.slice none 0 0)], oI bx1 25 (dC a k)] w1) => (haveI := tbz hI; subsetCheck w1 a k.nb k.fb k.nc k.fc (vals k.qs) (hI.dfa ha) haa haar haaf)
  refine TO.l rfl (l_call ent35 (CallT.op hk9) rfl ?_)
  clear hk9
  rintro vr O' ⟨N, rfl, rfl, rfl⟩
  refine TO.qa rfl ?_
  refine TO.nl (T.s (T.rg ?_))
  refine TO.qm rfl (TO.q (QT.toB (q_neq rfl rfl) (decide_eq_true (by omega))) ?_)
  refine TO.nl ?_
  refine T.cond1 rfl ?_
  refine T.s (T.rg ?_)
  refine TO.q (q_build plan25 inf25 rfl) (TO.qm rfl ?_)
  refine TO.l rfl (l_sb (v := (.agg #[(.int .i64 0), (.int .i64 0), (.slice none 0 0), (.slice none 0 0)])) (vs := [(.int .i64 0), (.int .i64 0), (.slice none 0 0), (.slice none 0 0)]) 0 inf25 rfl rfl rfl rfl rfl rfl (by simp [putL]) ?_)
  refine TO.qa rfl ?_
  refine TO.nl (T.ret (Res.drop ?_))
  refine Res.cell1b (.int .i64 (checkD a : Int)) (i := 0) Tryz.results27 underlying25 rfl inf25 rfl rfl rfl rfl ?_
  exact ⟨[], Sub.z, rfl, rfl⟩
theorem insVars (w : World) [Tab Tryz.prog w] (a : DFA) (k : DK) (ha : At w a k) (hv : Valid a) (v : Int) (hb : v < 0 ∨ a.vars < v ∨ a.vars = 6) :
    PureT Tryz.prog 27 [dV a k, .int .i64 v] w fun v9 N => v9 = .tuple #[dV noD ⟨none, 0, none, 0, []⟩, .int .i64 7] ∧ N = [] := by
  refine CallT.enter func27 rfl ntmps27 rfl ?_
  have he := checkD_zero.2 hv
  have h4 := hv.n4
  have hww : letN a ≤ 64 := hv.width
  have hfin := hv.fin
  have hvl := ha.rows.1
  have hsl := start_lt hv.toVal
  have hs0 := hv.s0
  have hs1 := hv.s1
  refine T.s (T.rg ?_)
  refine TO.l rfl (l_box (v := (dV a k)) (cs := (dC a k)) rfl rfl (fun bx1 => ?_))
  refine TO.l rfl (l_alloc inf25 rfl (fun bx2 => ?_))
  refine TO.qa rfl ?_
  refine TO.nl (T.s (T.s (T.rg ?_)))
  refine TO.q (q_la 1 underlying25 rfl inf25 rfl rfl rfl) ?_
  have hk9 := fun (w1 : World) (hI : Inv w [oI bx2 25 [(.int .i64 0), (.int .i64 0), (.slice none 0 0), (.slice none 0 0)], oI bx1 25 (dC a k)] w1) => (haveI := tbz hI; (show PureT _ _ _ _ _ from by
      have h9 := subsetCheck w1 a k.nb k.fb k.nc k.fc (vals k.qs) (hI.dfa ha) (by omega) hv.bound (by omega)
      rw [he] at h9
      exact h9))
  refine TO.l rfl (l_call ent35 (CallT.op hk9) rfl ?_)
  clear hk9
  rintro vr O' ⟨N, rfl, rfl, rfl⟩
  refine TO.qa rfl ?_
  refine TO.nl (T.s (T.rg ?_))
  refine TO.qm rfl (TO.q (q_neq rfl rfl) ?_)
  refine TO.nl ?_
  refine T.cond0 rfl ?_
  refine T.skip (T.s (T.s (T.rg ?_)))
  refine TO.qm rfl (TO.q (q_lss rfl rfl) ?_)
  by_cases hs16 : v < 0
  · refine TO.q (QT.toB (q_move rfl) (decide_eq_true hs16)) ?_
    refine TO.pd rfl rfl ?_
    refine TO.pd rfl rfl ?_
    refine TO.pd rfl rfl ?_
    refine TO.pd rfl rfl ?_
    refine TO.q (q_pick1 rfl rfl) (TO.qm rfl ?_)
    refine TO.pd rfl rfl ?_
    refine TO.pd rfl rfl ?_
    refine TO.pd rfl rfl ?_
    refine TO.q (q_pick1 rfl rfl) ?_
    refine TO.nl ?_
    refine T.cond1 rfl ?_
    refine T.s (T.rg ?_)
    refine TO.q (q_build plan25 inf25 rfl) ?_
    refine TO.l rfl (l_sb (v := (.agg #[(.int .i64 0), (.int .i64 0), (.slice none 0 0), (.slice none 0 0)])) (vs := [(.int .i64 0), (.int .i64 0), (.slice none 0 0), (.slice none 0 0)]) 0 inf25 rfl rfl rfl rfl rfl rfl (by simp [putL]) ?_)
    refine TO.qa rfl ?_
    refine TO.nl (T.ret (Res.drop ?_))
    refine Res.cell1b (.int .i64 7) (i := 0) Tryz.results27 underlying25 rfl inf25 rfl rfl rfl rfl ?_
    exact ⟨[], Sub.z, rfl, rfl⟩
  refine TO.q (QT.toB (q_move rfl) (decide_eq_false hs16)) ?_
  refine TO.gd rfl rfl rfl (LT.oq rfl rfl (q_move rfl) ?_)
  refine TO.gd rfl rfl rfl (LT.oq rfl rfl (q_fa underlying25 rfl inf3 rfl rfl) ?_)
  refine TO.gd rfl rfl rfl (LT.oq rfl rfl (q_lb 1 underlying3 rfl rfl rfl rfl) ?_)
  refine TO.gd rfl rfl rfl (LT.oq rfl rfl (q_gtr rfl rfl) ?_)
  refine TO.q (q_pick0 rfl rfl) ?_
  by_cases hs22 : v > a.vars
  · refine TO.q (QT.toB (q_move rfl) (decide_eq_true hs22)) ?_
    refine TO.pd rfl rfl ?_
    refine TO.pd rfl rfl ?_
    refine TO.pd rfl rfl ?_
    refine TO.q (q_pick1 rfl rfl) ?_
    refine TO.nl ?_
    refine T.cond1 rfl ?_
    refine T.s (T.rg ?_)
    refine TO.q (q_build plan25 inf25 rfl) ?_
    refine TO.l rfl (l_sb (v := (.agg #[(.int .i64 0), (.int .i64 0), (.slice none 0 0), (.slice none 0 0)])) (vs := [(.int .i64 0), (.int .i64 0), (.slice none 0 0), (.slice none 0 0)]) 0 inf25 rfl rfl rfl rfl rfl rfl (by simp [putL]) ?_)
    refine TO.qa rfl ?_
    refine TO.nl (T.ret (Res.drop ?_))
    refine Res.cell1b (.int .i64 7) (i := 0) Tryz.results27 underlying25 rfl inf25 rfl rfl rfl rfl ?_
    exact ⟨[], Sub.z, rfl, rfl⟩
  refine TO.q (QT.toB (q_move rfl) (decide_eq_false hs22)) ?_
  refine TO.gd rfl rfl rfl (LT.oq rfl rfl (q_fa underlying25 rfl inf3 rfl rfl) ?_)
  refine TO.gd rfl rfl rfl (LT.oq rfl rfl (q_lb 1 underlying3 rfl rfl rfl rfl) ?_)
  refine TO.gd rfl rfl rfl (LT.oq rfl rfl (q_eql rfl rfl) ?_)
  refine TO.q (q_pick0 rfl rfl) ?_
  refine TO.nl ?_
  refine T.cond1 (congrArg Value.bool (decide_eq_true (by omega))) ?_
  refine T.s (T.rg ?_)
  refine TO.q (q_build plan25 inf25 rfl) ?_
  refine TO.l rfl (l_sb (v := (.agg #[(.int .i64 0), (.int .i64 0), (.slice none 0 0), (.slice none 0 0)])) (vs := [(.int .i64 0), (.int .i64 0), (.slice none 0 0), (.slice none 0 0)]) 0 inf25 rfl rfl rfl rfl rfl rfl (by simp [putL]) ?_)
  refine TO.qa rfl ?_
  refine TO.nl (T.ret (Res.drop ?_))
  refine Res.cell1b (.int .i64 7) (i := 0) Tryz.results27 underlying25 rfl inf25 rfl rfl rfl rfl ?_
  exact ⟨[], Sub.z, rfl, rfl⟩
theorem insOk (w : World) [Tab Tryz.prog w] (a : DFA) (k : DK) (ha : At w a k) (hv : Valid a) (v : Nat) (hva : (v : Int) ≤ a.vars) (h5 : a.vars < 6) {M : DFA} (hM : minD (reD a ((a.vars.toNat + 1 : Nat) : Int) (cut v)) = M) :
    PureT Tryz.prog 27 [dV a k, .int .i64 ((v : Nat) : Int)] w fun v9 N => ∃ k9 : DK, v9 = .tuple #[dV M k9, .int .i64 0] ∧ N = [dI 37 4 3 M k9] := by
  refine CallT.enter func27 rfl ntmps27 rfl ?_
  have he := checkD_zero.2 hv
  have h4 := hv.n4
  have hww : letN a ≤ 64 := hv.width
  have hfin := hv.fin
  have hvl := ha.rows.1
  have hsl := start_lt hv.toVal
  have hs0 := hv.s0
  have hs1 := hv.s1
  have hv0 := hv.v0
  have hp : 2 ^ v ≤ 2 ^ 5 := Nat.pow_le_pow_right (by decide) (by omega)
  have hp0 : 0 < 2 ^ v := Nat.pow_pos (by decide)
  refine T.s (T.rg ?_)
  refine TO.l rfl (l_box (v := (dV a k)) (cs := (dC a k)) rfl rfl (fun z1 => ?_))
  refine TO.l rfl (l_alloc inf25 rfl (fun z2 => ?_))
  refine TO.qa rfl ?_
  refine TO.nl (T.s (T.s (T.rg ?_)))
  refine TO.q (q_la 1 underlying25 rfl inf25 rfl rfl rfl) ?_
  have hk9 := fun (w1 : World) (hI : Inv w [oI z2 25 [(.int .i64 0), (.int .i64 0), (.slice none 0 0), (.slice none 0 0)], oI z1 25 (dC a k)] w1) => (haveI := tbz hI; (show PureT _ _ _ _ _ from by
      have h9 := subsetCheck w1 a k.nb k.fb k.nc k.fc (vals k.qs) (hI.dfa ha) (by omega) hv.bound (by omega)
      rw [he] at h9
      exact h9))
  refine TO.l rfl (l_call ent35 (CallT.op hk9) rfl ?_)
  clear hk9
  rintro vr O' ⟨N, rfl, rfl, rfl⟩
  refine TO.qa rfl ?_
  refine TO.nl (T.s (T.rg ?_))
  refine TO.qm rfl (TO.q (q_neq rfl rfl) ?_)
  refine TO.nl ?_
  refine T.cond0 rfl ?_
  refine T.skip (T.s (T.s (T.rg ?_)))
  refine TO.qm rfl (TO.q (QT.toB (q_lss rfl rfl) (decide_eq_false (by omega))) (TO.qm rfl ?_))
  refine TO.gd rfl rfl rfl (LT.oq rfl rfl (q_move rfl) ?_)
  refine TO.gd rfl rfl rfl (LT.oq rfl rfl (q_fa underlying25 rfl inf3 rfl rfl) ?_)
  refine TO.gd rfl rfl rfl (LT.oq rfl rfl (q_lb 1 underlying3 rfl rfl rfl rfl) ?_)
  refine TO.gd rfl rfl rfl (LT.oq rfl rfl (QT.toB (q_gtr rfl rfl) (decide_eq_false (by omega))) ?_)
  refine TO.q (q_pick0 rfl rfl) (TO.qm rfl ?_)
  refine TO.gd rfl rfl rfl (LT.oq rfl rfl (q_fa underlying25 rfl inf3 rfl rfl) ?_)
  refine TO.gd rfl rfl rfl (LT.oq rfl rfl (q_lb 1 underlying3 rfl rfl rfl rfl) ?_)
  refine TO.gd rfl rfl rfl (LT.oq rfl rfl (QT.toB (q_eql rfl rfl) (decide_eq_false (by omega))) ?_)
  refine TO.q (q_pick0 rfl rfl) ?_
  refine TO.nl ?_
  refine T.cond0 rfl ?_
  refine T.skip (T.s (T.rg ?_))
  refine TO.qm rfl (TO.q (QT.cast (q_shlU (a := 1) (b := v) .u8 rfl rfl (by simp only [IntKind.bits]; omega) (by simp only [IntKind.bits]; omega)) (v' := .int .u8 ((2 ^ v : Nat) : Int)) (by rw [Nat.one_mul])) (TO.q (q_subU (a := 2 ^ v) (b := 1) .u8 rfl rfl (by simp only [IntKind.bits]; omega) (by omega)) ?_))
  refine TO.l rfl (l_alloc inf5 rfl (fun z3 => ?_))
  refine TO.l rfl (l_sb (v := .int .u8 ((2 ^ v - 1 : Nat) : Int)) (vs := [(.int .u8 ((2 ^ v - 1 : Nat) : Int))]) 0 inf5 rfl rfl rfl rfl rfl rfl (by simp [putL]) ?_)
  refine TO.nl (T.s (T.rg ?_))
  refine TO.q (q_la 2 underlying25 rfl inf25 rfl rfl rfl) (TO.q (q_fa underlying25 rfl inf3 rfl rfl) (TO.q (q_lb 2 underlying3 rfl rfl rfl rfl) (TO.q (QT.cast (q_add64 rfl rfl (by omega)) (v' := .int .i64 ((a.vars.toNat + 1 : Nat) : Int)) (congrArg (Value.int .i64) (by omega))) ?_)))
  refine TO.q (q_makeFunc) ?_
  have hk36 := CallT.under (A := [oI z3 5 [(.int .u8 ((2 ^ v - 1 : Nat) : Int))]]) (B := [oI z2 25 [(.int .i64 0), (.int .i64 0), (.slice none 0 0), (.slice none 0 0)], oI z1 25 (dC a k)]) (O := [oI z3 5 [(.int .u8 ((2 ^ v - 1 : Nat) : Int))], oI z2 25 [(.int .i64 0), (.int .i64 0), (.slice none 0 0), (.slice none 0 0)], oI z1 25 (dC a k)]) (rebF w a k ha hv (a.vars.toNat + 1) (by omega) _ rfl (cut v) (fun x hx => cut_lt a.vars.toNat (by omega) v (by omega) x hx) (.func (.func 64) #[] #[(.pointer (some ⟨z3, 0, none⟩))]) [oI z3 5 [(.int .u8 ((2 ^ v - 1 : Nat) : Int))]] (fun x hx => CallV.of_fn (first := []) (args := [.int .u8 ((x : Nat) : Int)]) (caps := [(.pointer (some ⟨z3, 0, none⟩))]) ent64 (insF w z3 v x (by omega) (Nat.lt_of_lt_of_le hx (Nat.pow_le_pow_right (n := 2) (by decide) (show a.vars.toNat + 1 ≤ 6 by omega))))) hM) (by exact Sub.rf)
  refine TO.l rfl (l_call ent62 hk36 rfl ?_)
  clear hk36
  rintro vr O' ⟨A1, rfl, k9, rfl, rfl⟩
  refine TO.q (q_extract (vs := _) rfl rfl) (TO.q (q_extract (vs := _) rfl rfl) ?_)
  refine TO.l rfl (l_sb (v := (dV M k9)) (vs := (dC M k9)) 1 inf25 rfl rfl rfl rfl rfl rfl (by simp [putL]) ?_)
  refine TO.qa rfl ?_
  refine TO.nl (T.ret (Res.drop ?_))
  refine Res.cell1b (.int .i64 0) (i := 1) Tryz.results27 underlying25 rfl inf25 rfl rfl rfl rfl ?_
  exact ⟨[dI 37 4 3 M k9], (by exact Sub.k .z), k9, rfl, rfl⟩
theorem insC (w : World) [Tab Tryz.prog w] (a : DFA) (k : DK) (ha : At w a k) (haa : a.next.length < 9223372036854775807) (haar : ∀ r ∈ a.next, r.length < 9223372036854775807) (haaf : a.final.length < 9223372036854775807) (v : Int) :
    PureT Tryz.prog 27 [dV a k, .int .i64 v] w fun v9 N => ∃ k9 : DK, v9 = .tuple #[dV (inV a v) k9, .int .i64 (inE2 a v : Int)] ∧ N = [dI 37 4 3 (inV a v) k9] := by
  by_cases he : checkD a ≠ 0
  · have e1 : inE2 a v = checkD a := by unfold inE2; rw [if_pos he]
    have e2 : inV a v = noD := by unfold inV; rw [if_neg (by omega)]
    rw [e1, e2]
    refine (CallT.nilD 37 4 3 (insBad w a k ha haa haar haaf he v)).mono ?_
    rintro v9 N ⟨O2, rfl, rfl, rfl⟩
    exact ⟨k00, rfl, rfl⟩
  · have hv : Valid a := checkD_zero.1 (by omega)
    by_cases hb : v < 0 ∨ a.vars < v ∨ a.vars = 6
    · have e1 : inE2 a v = 7 := by unfold inE2; rw [if_neg he, if_pos hb]
      have e2 : inV a v = noD := by unfold inV; rw [if_neg (by omega)]
      rw [e1, e2]
      refine (CallT.nilD 37 4 3 (insVars w a k ha hv v hb)).mono ?_
      rintro v9 N ⟨O2, rfl, rfl, rfl⟩
      exact ⟨k00, rfl, rfl⟩
    · have e1 : inE2 a v = 0 := by unfold inE2; rw [if_neg he, if_neg hb]
      have e2 : inV a v = minD (reD a (a.vars + 1) (cut v.toNat)) := by unfold inV; rw [if_pos e1]
      have hv0 := hv.v0
      have hv6 := hv.v6
      rw [e1, e2]
      obtain ⟨n, rfl⟩ : ∃ n : Nat, v = n := ⟨v.toNat, by omega⟩
      exact insOk w a k ha hv n (by omega) (by omega) (by rw [show ((a.vars.toNat + 1 : Nat) : Int) = a.vars + 1 by omega]; rfl)
end Go.Proofs.YtohkmggbfcnapaaGreatDoor


namespace Go.Proofs.YtohkmggbfcnapaaGreatDoor
open Go.Lx Go.RowKit _root_.Go.Proofs.Tryz
theorem ignBad (w : World) [Tab Tryz.prog w] (a : DFA) (k : DK) (ha : At w a k) (haa : a.next.length < 9223372036854775807) (haar : ∀ r ∈ a.next, r.length < 9223372036854775807) (haaf : a.final.length < 9223372036854775807) (v : Int) (he : vE a v ≠ 0) :
    PureT Tryz.prog 18 [dV a k, .int .i64 v] w fun r N => r = .tuple #[.bool false, .int .i64 (vE a v : Int)] ∧ N = [] := by
  refine CallT.enter func18 rfl ntmps18 rfl ?_
  refine T.s (T.rg ?_)
  refine TO.l rfl (l_box (v := (dV a k)) (cs := (dC a k)) rfl rfl (fun bx1 => ?_))
  refine TO.l rfl (l_alloc inf4 rfl (fun bx2 => ?_))
  refine TO.l rfl (l_alloc inf29 rfl (fun bx3 => ?_))
  refine TO.nl (T.s (T.s (T.rg ?_)))
  refine TO.q (q_la 2 underlying25 rfl inf25 rfl rfl rfl) (TO.qm rfl ?_)
  have hk16 := fun (w1 : World) (hI : Inv w [oI bx3 29 [(.int .i64 0)], oI bx2 4 [(.bool false)], oI bx1 25 (dC a k)] w1) => (haveI := tbz hI; pCheck w1 a k (hI.atB ha) haa haar haaf v)
  refine TO.l rfl (l_call ent48 (CallT.op hk16) rfl ?_)
  clear hk16
  rintro vr O' ⟨N, rfl, rfl, rfl⟩
  refine TO.qa rfl ?_
  refine TO.nl (T.s (T.rg ?_))
  refine TO.qm rfl (TO.q (QT.toB (q_neq rfl rfl) (decide_eq_true (by omega))) ?_)
  refine TO.nl ?_
  refine T.cond1 rfl ?_
  refine T.s (T.rg ?_)
  refine TO.qm rfl ?_
  refine TO.l rfl (l_sb (v := .bool false) (vs := [(.bool false)]) 1 inf4 rfl rfl rfl rfl rfl rfl (by simp [putL]) ?_)
  refine TO.l rfl (l_sb (v := .int .i64 (vE a v : Int)) (vs := [(.int .i64 (vE a v : Int))]) 0 inf29 rfl rfl rfl rfl rfl rfl (by simp [putL]) ?_)
  refine TO.nl (T.ret (Res.drop ?_))
  refine Res.cell2s (i := 1) (j := 0) Tryz.results18 underlying4 rfl underlying29 rfl rfl rfl rfl rfl ?_
  exact ⟨[], Sub.z, rfl, rfl⟩
theorem ignOk (w : World) [Tab Tryz.prog w] (a : DFA) (k : DK) (ha : At w a k) (hv : Valid a) (v : Nat) (hva : (v : Int) < a.vars) {M : DFA} (hM : minD a = M) :
    PureT Tryz.prog 18 [dV a k, .int .i64 ((v : Nat) : Int)] w fun r N => r = .tuple #[.bool (ignB M v), .int .i64 0] ∧ N = [] := by
  refine CallT.enter func18 rfl ntmps18 rfl ?_
  have he := checkD_zero.2 hv
  have h4 := hv.n4
  have hww : letN a ≤ 64 := hv.width
  have hfin := hv.fin
  have hvl := ha.rows.1
  have hsl := start_lt hv.toVal
  have hs0 := hv.s0
  have hs1 := hv.s1
  have hve : vE a v = 0 := vE_zero.2 ⟨hv, by omega, hva⟩
  have hMv : Valid M := hM ▸ minD_valid hv
  have hMs : M.vars = a.vars := by rw [← hM]; rfl
  have hv6 := hv.v6
  have hMn := hMv.n4
  have hlw : letN M ≤ 64 := hMv.width
  refine T.s (T.rg ?_)
  refine TO.l rfl (l_box (v := (dV a k)) (cs := (dC a k)) rfl rfl (fun z1 => ?_))
  refine TO.l rfl (l_alloc inf4 rfl (fun z2 => ?_))
  refine TO.l rfl (l_alloc inf29 rfl (fun z3 => ?_))
  refine TO.nl (T.s (T.s (T.rg ?_)))
  refine TO.q (q_la 2 underlying25 rfl inf25 rfl rfl rfl) (TO.qm rfl ?_)
  have hk16 := fun (w1 : World) (hI : Inv w [oI z3 29 [(.int .i64 0)], oI z2 4 [(.bool false)], oI z1 25 (dC a k)] w1) => (haveI := tbz hI; (show PureT _ _ _ _ _ from by
      have h9 := pCheck w1 a k (hI.atB ha) (by omega) hv.bound (by omega) (v : Int)
      rw [hve] at h9
      exact h9))
  refine TO.l rfl (l_call ent48 (CallT.op hk16) rfl ?_)
  clear hk16
  rintro vr O' ⟨N, rfl, rfl, rfl⟩
  refine TO.qa rfl ?_
  refine TO.nl (T.s (T.rg ?_))
  refine TO.qm rfl (TO.q (QT.toB (q_neq rfl rfl) (decide_eq_false (by omega))) ?_)
  refine TO.nl ?_
  refine T.cond0 rfl ?_
  refine T.skip (T.s (T.rg ?_))
  refine TO.q (q_la 2 underlying25 rfl inf25 rfl rfl rfl) ?_
  have hk22 := fun (w1 : World) (hI : Inv w [oI z3 29 [(.int .i64 0)], oI z2 4 [(.bool false)], oI z1 25 (dC a k)] w1) => (haveI := tbz hI; minKE w1 a k (hI.atB ha) hv (by omega) (M := M) hM)
  refine TO.l rfl (l_call ent34 (CallT.op hk22) rfl ?_)
  clear hk22
  rintro vr O' ⟨N, rfl, k9, rfl, rfl⟩
  refine TO.qm rfl (TO.q (q_extract (vs := _) rfl rfl) (TO.q (q_extract (vs := _) rfl rfl) ?_))
  refine TO.l rfl (l_alloc inf25 rfl (fun z4 => ?_))
  refine TO.l rfl (l_sb (v := (dV M k9)) (vs := (dC M k9)) 0 inf25 rfl rfl rfl rfl rfl rfl (by simp [putL]) ?_)
  refine TO.qa rfl ?_
  refine TO.nl (T.s (T.s ?_))
  refine T.have (φ := nums k9.qs = M.next) (fun w9 hI => dI_nums hI (mG 1 rfl)) (fun hqs => ?_)
  have hvl9 : (vals k9.qs).length = M.next.length := by rw [← hqs]; simp
  refine T.rg ?_
  refine TO.q (q_fa underlying25 rfl inf22 rfl rfl) (TO.q (q_lb 0 underlying22 rfl rfl rfl rfl) (TO.q (q_len underlying22 rfl) (TO.qm rfl ?_)))
  refine TO.nl (T.block ?_)
  refine T.loopS (fun (s : Nat) ρ O => O = [oI z4 25 (dC M k9), dI 37 4 3 M k9, oI z3 29 [(.int .i64 0)], oI z2 4 [(.bool false)], oI z1 25 (dC a k)] ∧ s ≤ M.next.length ∧ (∀ s1, s1 < s → ∀ x, x < letN M → toN M s1 (c0 v x) = toN M s1 x) ∧ Heads [(0, (dV a k)), (1, .int .i64 ((v : Nat) : Int)), (2, (.pointer (some ⟨z1, 0, none⟩))), (4, (.pointer (some ⟨z2, 0, none⟩))), (5, (.pointer (some ⟨z3, 0, none⟩))), (6, .int .i64 0), (7, (.pointer (some ⟨z4, 0, none⟩))), (26, (.slice k9.nb M.next.length k9.nc)), (27, .int .i64 (M.next.length : Int)), (28, .int .i64 ((s : Nat) : Int))] ρ) (fun s => M.next.length - s) 0 ?_ ?_
  · exact ⟨rfl, Nat.zero_le _, fun s1 h => absurd h (by omega), ⟨rfl, rfl, rfl, rfl, rfl, rfl, rfl, rfl, rfl, rfl, trivial⟩⟩
  rintro s ρ O ⟨rfl, hs, hall, hH⟩
  obtain ⟨ρ0, rfl⟩ := hH.elim
  clear hH
  refine T.s (T.rg ?_)
  refine TO.q (q_lss rfl rfl) ?_
  refine TO.nl (T.s ?_)
  refine T.condP rfl (fun hc => ?_) (fun hc => ?_)
  · have hlt29 : s < M.next.length := by omega
    have hsl : s < M.next.length := by omega
    obtain ⟨q0, hq0, hz0⟩ := dk_row hqs hsl
    have hl1 : M.next[s].length = letN M := hMv.len _ (List.getElem_mem hsl)
    have hg9 : (vals k9.qs)[s]? = some (.slice q0.b M.next[s].length q0.c) := by rw [rvals_at hq0, hz0]
    refine T.skip (T.s (T.block (T.s (T.rg ?_))))
    refine TO.q (q_ix (i := s) underlying22 inf37 rfl rfl (dI_outer (mG 1 rfl)) hsl (hvl9 ▸ hsl)) (TO.q (q_ld underlying37 rfl rfl (dI_outer (mG 1 rfl)) hg9) ?_)
    refine TO.l rfl (l_alloc inf37 rfl (fun z5 => ?_))
    refine TO.l rfl (l_sb (v := (.slice q0.b M.next[s].length q0.c)) (vs := [(.slice q0.b M.next[s].length q0.c)]) 0 inf37 rfl rfl rfl rfl rfl rfl (by simp [putL]) ?_)
    refine TO.nl (T.s (T.rg ?_))
    refine TO.q (q_lb 0 underlying37 rfl rfl rfl rfl) (TO.q (q_len underlying37 rfl) (TO.qm rfl ?_))
    refine TO.nl (T.block ?_)
    refine T.loopS (fun (x : Nat) ρ O => O = [oI z5 37 [(.slice q0.b M.next[s].length q0.c)], oI z4 25 (dC M k9), dI 37 4 3 M k9, oI z3 29 [(.int .i64 0)], oI z2 4 [(.bool false)], oI z1 25 (dC a k)] ∧ x ≤ M.next[s].length ∧ (∀ x1, x1 < x → toN M s (c0 v x1) = toN M s x1) ∧ Heads [(0, (dV a k)), (1, .int .i64 ((v : Nat) : Int)), (2, (.pointer (some ⟨z1, 0, none⟩))), (4, (.pointer (some ⟨z2, 0, none⟩))), (5, (.pointer (some ⟨z3, 0, none⟩))), (6, .int .i64 0), (7, (.pointer (some ⟨z4, 0, none⟩))), (10, (.pointer (some ⟨z5, 0, none⟩))), (26, (.slice k9.nb M.next.length k9.nc)), (27, .int .i64 (M.next.length : Int)), (28, .int .i64 ((s : Nat) : Int)), (32, (.slice q0.b M.next[s].length q0.c)), (33, .int .i64 (M.next[s].length : Int)), (34, .int .i64 ((x : Nat) : Int))] ρ) (fun x => M.next[s].length - x) 0 ?_ ?_
    · exact ⟨rfl, Nat.zero_le _, fun x1 h => absurd h (by omega), ⟨rfl, rfl, rfl, rfl, rfl, rfl, rfl, rfl, rfl, rfl, rfl, rfl, rfl, rfl, trivial⟩⟩
    rintro x ρ O ⟨rfl, hx, hrow, hH⟩
    obtain ⟨ρ0, rfl⟩ := hH.elim
    clear hH
    refine T.s (T.rg ?_)
    refine TO.q (q_lss rfl rfl) ?_
    refine TO.nl (T.s ?_)
    refine T.condP rfl (fun hc => ?_) (fun hc => ?_)
    · have hlt35 : x < M.next[s].length := by omega
      have hxl : x < letN M := by omega
      obtain ⟨hto, _, hxk1, hx1⟩ := hMv.toN_lt hsl hxl
      have hx1 : (ints M.next[s])[x]? = some (.int .i64 ((toN M s x : Nat) : Int)) := by rw [ints_get hxk1, hx1]
      refine T.skip (T.s (T.block (T.s (T.rg ?_))))
      refine TO.qm rfl (TO.q (q_ix (i := x) underlying37 inf3 rfl rfl (dI_row (mG 2 rfl) hq0 hz0) hxk1 (by rw [List.length_map]; exact hxk1)) (TO.q (q_ld underlying3 rfl rfl (dI_row (mG 2 rfl) hq0 hz0) hx1) ?_))
      refine TO.l rfl (l_alloc inf3 rfl (fun z6 => ?_))
      refine TO.qa rfl ?_
      refine TO.l rfl (l_sb (v := .int .i64 ((toN M s x : Nat) : Int)) (vs := [(.int .i64 ((toN M s x : Nat) : Int))]) 0 inf3 rfl rfl rfl rfl rfl rfl (by simp [putL]) ?_)
      refine TO.nl (T.s (T.rg ?_))
      refine TO.qm rfl (TO.q (q_conv_id underlying3 underlying5 rfl (wrap8 (by omega))) (TO.qm rfl ?_))
      have hk42 := fun (w1 : World) (hI : Inv w [oI z6 3 [(.int .i64 ((toN M s x : Nat) : Int))], oI z5 37 [(.slice q0.b M.next[s].length q0.c)], oI z4 25 (dC M k9), dI 37 4 3 M k9, oI z3 29 [(.int .i64 0)], oI z2 4 [(.bool false)], oI z1 25 (dC a k)] w1) => (haveI := tbz hI; variMk w1 x v)
      refine TO.l rfl (l_call ent52 (CallT.op hk42) rfl ?_)
      clear hk42
      rintro vr O' ⟨N, rfl, xb, vb, rfl, rfl⟩
      refine TO.nl (T.block ?_)
      refine T.rangeFunc (first := []) (caps := [(.pointer (some ⟨vb, 0, none⟩)), (.pointer (some ⟨xb, 0, none⟩))]) rfl ent87 (fun yl yq yhq => ?_)
      refine CallT.mono (CallT.sub (O' := oI vb 3 [(.int .i64 ((v : Nat) : Int))] :: oI xb 5 [(.int .u8 ((x : Nat) : Int))] :: (objI yl (lp yq none) :: [oI z6 3 [(.int .i64 ((toN M s x : Nat) : Int))], oI z5 37 [(.slice q0.b M.next[s].length q0.c)], oI z4 25 (dC M k9), dI 37 4 3 M k9, oI z3 29 [(.int .i64 0)], oI z2 4 [(.bool false)], oI z1 25 (dC a k)])) (Sub.pick [1, 1, 0, 0, 0, 0, 0, 0, 0, 0] rfl) (variF w xb vb v x (by omega) (by omega) (.func (.yield yl) #[] #[]) (fun i9 O => O = objI yl (lp yq none) :: [oI z6 3 [(.int .i64 ((toN M s x : Nat) : Int))], oI z5 37 [(.slice q0.b M.next[s].length q0.c)], oI z4 25 (dC M k9), dI 37 4 3 M k9, oI z3 29 [(.int .i64 0)], oI z2 4 [(.bool false)], oI z1 25 (dC a k)] ∧ (0 < i9 → toN M s (c0 v x) = toN M s x)) (fun O => O = objI yl (lp yq (some .ret)) :: [oI z6 3 [(.int .i64 ((toN M s x : Nat) : Int))], oI z5 37 [(.slice q0.b M.next[s].length q0.c)], oI z4 25 (dC M k9), dI 37 4 3 M k9, oI z3 29 [(.int .i64 0)], oI z2 4 [(.bool false)], oI z1 25 (dC a k)] ∧ ignB M v = false) ?_ _ ?_)) ?_
      · intro i y O hiy hJ
        obtain ⟨rfl, hJ0⟩ := hJ
        refine CallV.yield yhq rfl rfl ?_
        have hyy : y = c0 v x ∨ y = c1 v x := hiy.elim (fun h => .inl h.2) (fun h => .inr h.2)
        have hyl : y < letN M := by
          rcases hyy with rfl | rfl
          · exact c0_lt hxl
          · exact c1_lt (letN6 hMv.toVal) (by omega) hxl
        obtain ⟨hty, _, hyk1, hy1⟩ := hMv.toN_lt hsl hyl
        have hy1 : (ints M.next[s])[y]? = some (.int .i64 ((toN M s y : Nat) : Int)) := by rw [ints_get hyk1, hy1]
        refine T.rg ?_
        refine TO.qa rfl ?_
        refine TO.nl (T.block (T.s ?_))
        refine T.draws _ [(0, 0), (1, 0), (2, 0), (3, 0), (4, 0), (5, 0)] mixed (by kernel_rfl) (Sub.of (List.Sublist.refl _)) (fun _ _ _ h => h) ?_
        refine DO.q rfl (q_lb 1 underlying37 rfl rfl rfl rfl) (DO.q rfl (q_move rfl) (DO.q rfl (q_ix (i := y) underlying37 inf3 rfl rfl (dI_row (mG 3 rfl) hq0 hz0) hyk1 (by rw [List.length_map]; exact hyk1)) (DO.q rfl (q_ld underlying3 rfl rfl (dI_row (mG 3 rfl) hq0 hz0) hy1) ?_)))
        refine DO.q rfl (q_lb 0 underlying3 rfl rfl rfl rfl) (DO.q rfl (q_neq rfl rfl) ?_)
        refine DO.done ?_
        refine T.condP rfl (fun hc => ?_) (fun hc => ?_)
        · have hlt49 : toN M s y ≠ toN M s x := by omega
          refine T.s (T.rg ?_)
          refine TO.l rfl (l_sb (v := .bool false) (vs := [(.bool false)]) 5 inf4 rfl rfl rfl rfl rfl rfl (by simp [putL]) ?_)
          refine TO.l rfl (l_sb (v := .int .i64 0) (vs := [(.int .i64 0)]) 4 inf29 rfl rfl rfl rfl rfl rfl (by simp [putL]) ?_)
          refine TO.nl (T.ret ?_)
          exact .inr ⟨rfl, rfl, ign_no (by omega) (letN6 hMv.toVal) hsl hxl hyy (by omega)⟩
        have hge49 : ¬ toN M s y ≠ toN M s x := by omega
        refine T.skip ?_
        refine .inl ⟨rfl, rfl, fun _ => ?_⟩
        rcases hiy with ⟨rfl, rfl⟩ | ⟨rfl, rfl⟩
        · omega
        · exact hJ0 (by decide)
      · exact ⟨rfl, fun h => absurd h (by decide)⟩
      rintro v9 O' (⟨rfl, hx0⟩ | ⟨rfl, hno⟩)
      · refine ⟨none, _, rfl, ?_⟩
        have hx0 := hx0 (by decide)
        refine T.rg ?_
        refine TO.q (q_addN (a := x) (b := 1) rfl rfl (by omega)) (TO.qm rfl ?_)
        refine TO.nl ?_
        exact ⟨x + 1, by omega, [oI z5 37 [(.slice q0.b M.next[s].length q0.c)], oI z4 25 (dC M k9), dI 37 4 3 M k9, oI z3 29 [(.int .i64 0)], oI z2 4 [(.bool false)], oI z1 25 (dC a k)], (by exact Sub.d (.k (.k (.k (.k (.k (.k .z))))))), rfl, by omega, fun x1 h1 => (Nat.lt_succ_iff_lt_or_eq.1 h1).elim (fun h => hrow x1 h) (fun h => h ▸ hx0), ⟨rfl, rfl, rfl, rfl, rfl, rfl, rfl, rfl, rfl, rfl, rfl, rfl, rfl, rfl, trivial⟩⟩
      refine ⟨some .ret, _, rfl, ?_⟩
      refine Res.drop ?_
      refine Res.cell2s (i := 5) (j := 4) Tryz.results18 underlying4 rfl underlying29 rfl rfl rfl rfl rfl ?_
      rw [hno]
      exact ⟨[], Sub.z, rfl, rfl⟩
    have hge35 : ¬ x < M.next[s].length := by omega
    refine T.exit ?_
    refine T.rg ?_
    refine TO.q (q_addN (a := s) (b := 1) rfl rfl (by omega)) (TO.qm rfl ?_)
    refine TO.nl ?_
    have hxe : x = letN M := by omega
    exact ⟨s + 1, by omega, [oI z4 25 (dC M k9), dI 37 4 3 M k9, oI z3 29 [(.int .i64 0)], oI z2 4 [(.bool false)], oI z1 25 (dC a k)], (by exact Sub.d (.k (.k (.k (.k (.k .z)))))), rfl, by omega, fun s1 h1 x1 hx1 => (Nat.lt_succ_iff_lt_or_eq.1 h1).elim (fun h => hall s1 h x1 hx1) (fun h => h ▸ hrow x1 (by omega)), ⟨rfl, rfl, rfl, rfl, rfl, rfl, rfl, rfl, rfl, rfl, trivial⟩⟩
  have hge29 : ¬ s < M.next.length := by omega
  refine T.exit ?_
  refine T.s (T.rg ?_)
  refine TO.l rfl (l_sb (v := .bool true) (vs := [(.bool true)]) 3 inf4 rfl rfl rfl rfl rfl rfl (by simp [putL]) ?_)
  refine TO.l rfl (l_sb (v := .int .i64 0) (vs := [(.int .i64 0)]) 2 inf29 rfl rfl rfl rfl rfl rfl (by simp [putL]) ?_)
  refine TO.nl (T.ret (Res.drop ?_))
  refine Res.cell2s (i := 3) (j := 2) Tryz.results18 underlying4 rfl underlying29 rfl rfl rfl rfl rfl ?_
  rw [ign_yes (m := M) (v := v) (fun s1 h1 x1 hx1 => hall s1 (by omega) x1 hx1)]
  exact ⟨[], Sub.z, rfl, rfl⟩
theorem ignC (w : World) [Tab Tryz.prog w] (a : DFA) (k : DK) (ha : At w a k) (haa : a.next.length < 9223372036854775807) (haar : ∀ r ∈ a.next, r.length < 9223372036854775807) (haaf : a.final.length < 9223372036854775807) (v : Int) :
    PureT Tryz.prog 18 [dV a k, .int .i64 v] w fun r N => r = .tuple #[.bool (igV a v), .int .i64 (vE a v : Int)] ∧ N = [] := by
  by_cases he : vE a v = 0
  · obtain ⟨hv, h0, h1⟩ := vE_zero.1 he
    obtain ⟨n, rfl⟩ : ∃ n : Nat, v = n := ⟨v.toNat, by omega⟩
    rw [igV_ok he, he]
    exact ignOk w a k ha hv n h1 rfl
  · rw [igV_bad he]
    exact ignBad w a k ha haa haar haaf v he
end Go.Proofs.YtohkmggbfcnapaaGreatDoor


namespace Go.Proofs.YtohkmggbfcnapaaGreatDoor
open Go.Lx Go.RowKit _root_.Go.Proofs.Tryz
theorem pow2C (w : World) [Tab Tryz.prog w] :
    PureT Tryz.prog 149 [.int .i64 16] w fun v N => v = .bool true ∧ N = [] := by
  refine CallT.enter func149 rfl ntmps149 rfl ?_
  refine T.s (T.rg ?_)
  refine TO.qa rfl ?_
  refine TO.nl (T.s (T.rg ?_))
  refine TO.qm rfl (TO.qm rfl (TO.q (QT.cast (q_sub64 rfl rfl (by omega)) (v' := .int .i64 15) rfl) (TO.q (q_and16 rfl rfl) ?_)))
  refine TO.q (QT.toB (q_eql rfl rfl) (b' := true) rfl) (TO.qa rfl ?_)
  refine TO.nl (T.ret ?_)
  refine Res.one (.bool true) Tryz.results149 rfl ?_
  exact ⟨rfl, rfl⟩
theorem tz16 (w : World) [Tab Tryz.prog w] :
    PureT Tryz.prog 150 [.int .u64 16] w fun v N => v = .int .i64 4 ∧ N = [] := by
  refine CallT.enter func150 rfl ntmps150 rfl ?_
  refine T.s (T.rg ?_)
  refine TO.qa rfl ?_
  refine TO.nl (T.s ?_)
  refine T.cond0 rfl ?_
  refine T.skip (T.s (T.rg ?_))
  refine TO.qm rfl ?_
  have hk7 := fun (w1 : World) (hI : Inv w [] w1) => (haveI := Inv.tab (P := Tryz.prog) hI; (show PureT _ _ _ _ _ from by
      have h9 := tzC w1 16 (by decide) (by decide)
      rw [show Lib.ctz 64 16 = 4 by decide] at h9
      exact h9))
  refine TO.l rfl (l_call ent112 (CallT.op hk7) rfl ?_)
  clear hk7
  rintro vr O' ⟨N, rfl, rfl, rfl⟩
  refine TO.qa rfl ?_
  refine TO.nl (T.ret ?_)
  refine Res.one (.int .i64 4) Tryz.results150 rfl ?_
  exact ⟨rfl, rfl⟩
theorem fmtF (base : World) [Tab Tryz.prog base] (b : Option Addr) (c : Nat) (l : List Nat) (w0 : Nat) (hw : w0 < 18446744073709551616) (hl : l.length < 1000000) :
    CallT Tryz.prog base 130 [.slice b l.length c, .int .u64 ((w0 : Nat) : Int), .int .i64 16, .bool false, .bool true] [rowI b c 5 1 (byts l)] (fun v O' => ∃ b2 c2, v = .tuple #[.slice b2 (l.length + (hexL w0).length) c2, .string ⟨#[]⟩] ∧ O' = [rowI b2 c2 5 1 (byts l ++ byts (hexL w0))]) := by
  refine CallT.enter func130 rfl ntmps130 rfl ?_
  refine T.s (T.rg ?_)
  refine TO.qa rfl (TO.qa rfl ?_)
  refine TO.nl (T.s (T.s (T.rg ?_)))
  refine TO.qm rfl (TO.q (QT.toB (q_lss rfl rfl) (decide_eq_false (by decide))) (TO.qm rfl ?_))
  refine TO.gd rfl rfl rfl (LT.oq rfl rfl (q_move rfl) ?_)
  refine TO.gd rfl rfl rfl (LT.oq rfl rfl (QT.toB (q_eql rfl rfl) (decide_eq_false (by decide))) ?_)
  refine TO.q (q_pick0 rfl rfl) (TO.qm rfl ?_)
  refine TO.gd rfl rfl rfl (LT.oq rfl rfl (q_move rfl) ?_)
  refine TO.gd rfl rfl rfl (LT.oq rfl rfl (QT.toB (q_gtr rfl rfl) (decide_eq_false (by decide))) ?_)
  refine TO.q (q_pick0 rfl rfl) ?_
  refine TO.nl ?_
  refine T.cond0 rfl ?_
  refine T.skip (T.s (T.rg ?_))
  refine TO.l rfl (l_alloc inf180 rfl (fun z1 => ?_))
  refine TO.sub (O' := [oI z1 180 (List.replicate 65 (.int .u8 0)), rowI b c 5 1 (byts l)]) (by exact Sub.rf) ?_
  refine TO.nl (T.s (T.rg ?_))
  refine TO.qa rfl ?_
  refine TO.nl (T.s (T.s (T.rg ?_)))
  refine TO.qm rfl ?_
  refine TO.nl ?_
  refine T.cond0 rfl ?_
  refine T.skip (T.s (T.s (T.rg ?_)))
  refine TO.qm rfl ?_
  have hk34 := fun (w1 : World) (hI : Inv base [oI z1 180 (List.replicate 65 (.int .u8 0)), rowI b c 5 1 (byts l)] w1) => (haveI := Inv.tab (P := Tryz.prog) hI; pow2C w1)
  refine TO.l rfl (l_call ent149 (CallT.op hk34) rfl ?_)
  clear hk34
  rintro vr O' ⟨N, rfl, rfl, rfl⟩
  refine TO.nl ?_
  refine T.cond1 rfl ?_
  refine T.s (T.rg ?_)
  refine TO.qm rfl (TO.q (q_conv_id underlying3 underlying52 rfl rfl) ?_)
  have hk37 := fun (w1 : World) (hI : Inv base [oI z1 180 (List.replicate 65 (.int .u8 0)), rowI b c 5 1 (byts l)] w1) => (haveI := Inv.tab (P := Tryz.prog) hI; tz16 w1)
  refine TO.l rfl (l_call ent150 (CallT.op hk37) rfl ?_)
  clear hk37
  rintro vr O' ⟨N, rfl, rfl, rfl⟩
  refine TO.q (q_conv_id underlying3 underlying52 rfl rfl) (TO.qa rfl ?_)
  refine TO.nl (T.s (T.rg ?_))
  refine TO.qm rfl (TO.q (q_conv_id underlying3 underlying107 rfl rfl) (TO.qa rfl ?_))
  refine TO.nl (T.s (T.rg ?_))
  refine TO.qm rfl (TO.q (q_conv_id underlying3 underlying52 rfl rfl) (TO.q (QT.cast (q_subU (a := 16) (b := 1) .u64 rfl rfl (by decide) (by decide)) (v' := .int .u64 15) rfl) (TO.qa rfl ?_)))
  refine TO.nl (T.s (T.block ?_))
  refine T.loop (fun (u : Nat) ρ O => ∃ (ds : List Nat) (cs : List Value), O = [objI z1 (.cells (List.toArray cs) 180 (0, 0)), rowI b c 5 1 (byts l)] ∧ HexI w0 u ds ∧ ArrI cs ds ∧ Heads [(0, (.slice b l.length c)), (1, .int .u64 ((u : Nat) : Int)), (2, .int .i64 16), (3, .bool false), (4, .bool true), (10, (.slice none 0 0)), (11, .string ⟨#[]⟩), (12, (.pointer (some ⟨z1, 0, none⟩))), (13, .int .i64 ((65 - ds.length : Nat) : Int)), (14, .int .u64 4), (15, .int .u64 16), (16, .int .u64 15)] ρ) (fun u => u) w0 ?_ ?_
  · exact ⟨[], _, rfl, HexI.zero hw, ⟨by simp, fun q h => by cases h⟩, ⟨rfl, rfl, rfl, rfl, rfl, rfl, rfl, rfl, rfl, rfl, rfl, rfl, trivial⟩⟩
  rintro u ρ O ⟨ds, cs, rfl, hE, hA, hH⟩
  obtain ⟨ρ0, rfl⟩ := hH.elim
  clear hH
  have hu64 := hE.le
  have hdl : ds.length ≤ 15 := by obtain ⟨f9, _, _, h3, h4⟩ := hE; omega
  refine T.s (T.s (T.rg ?_))
  refine TO.qm rfl (TO.qm rfl (TO.q (QT.cast (q_geq rfl rfl) (v' := .bool (decide (16 ≤ u))) (congrArg Value.bool (decide_eq_decide.2 (by omega)))) ?_))
  refine TO.nl ?_
  refine T.condP rfl (fun hc => ?_) (fun hc => ?_)
  · have hge : 16 ≤ u := hc
    obtain ⟨b9, hb9, hm9⟩ := digS (u % 16) (by omega)
    refine T.skip (T.block (T.s (T.rg ?_)))
    refine TO.qm rfl (TO.q (QT.cast (q_sub64 rfl rfl (by omega)) (v' := .int .i64 ((65 - ds.length - 1 : Nat) : Int)) (congrArg (Value.int .i64) (by omega))) (TO.qa rfl ?_))
    refine TO.nl (T.s (T.rg ?_))
    refine TO.qm rfl (TO.qm rfl (TO.qm rfl (TO.q (QT.cast (q_and (a := u) (b := 15) .u64 rfl rfl (by simp only [IntKind.bits]; omega) (by decide)) (v' := .int .u64 ((u % 16 : Nat) : Int)) (by rw [show (15 : Nat) = 2 ^ 4 - 1 by decide, Nat.and_two_pow_sub_one_eq_mod])) ?_)))
    refine TO.q (q_idxStr (bs := digB) (i := u % 16) underlying9 rfl rfl hb9 hm9) (TO.q (QT.cast (q_ixArr (i := 65 - ds.length - 1) underlying180 inf5 rfl rfl (by omega)) (v' := (.pointer (some ⟨z1, 65 - ds.length - 1, none⟩))) (by rw [Nat.zero_add, Nat.mul_one])) ?_)
    refine TO.l rfl (l_sb (v := .int .u8 ((dgt (u % 16) : Nat) : Int)) (vs := [.int .u8 ((dgt (u % 16) : Nat) : Int)]) 0 inf5 rfl rfl rfl rfl rfl rfl (by have := hA.1; simp; omega) ?_)
    refine TO.nl (T.rg ?_)
    refine TO.qm rfl (TO.qm rfl (TO.q (QT.cast (q_shr (a := u) (b := 4) .u64 rfl rfl (by simp only [IntKind.bits]; omega) (by decide)) (v' := .int .u64 ((u / 16 : Nat) : Int)) (by rw [Nat.shiftRight_eq_div_pow])) (TO.qa rfl ?_)))
    refine TO.nl ?_
    obtain ⟨hE2, _⟩ := hE.step hge
    exact ⟨u / 16, by omega, _, _, rfl, hE2, hA.put hdl, ⟨rfl, rfl, rfl, rfl, rfl, rfl, rfl, rfl, (congrArg (fun n : Nat => Value.int .i64 (n : Int)) (by simp only [List.length_cons]; omega)), rfl, rfl, rfl, trivial⟩⟩
  have hlt16 : u < 16 := by have := hc; omega
  obtain ⟨b9, hb9, hm9⟩ := digS u hlt16
  obtain ⟨hx1, hx2⟩ := hE.done hlt16
  refine T.exit ?_
  refine T.s (T.rg ?_)
  refine TO.qm rfl (TO.q (QT.cast (q_sub64 rfl rfl (by omega)) (v' := .int .i64 ((65 - ds.length - 1 : Nat) : Int)) (congrArg (Value.int .i64) (by omega))) (TO.qa rfl ?_))
  refine TO.nl (T.rg ?_)
  refine TO.qm rfl (TO.qm rfl (TO.q (q_idxStr (bs := digB) (i := u) underlying9 rfl rfl hb9 hm9) (TO.q (QT.cast (q_ixArr (i := 65 - ds.length - 1) underlying180 inf5 rfl rfl (by omega)) (v' := (.pointer (some ⟨z1, 65 - ds.length - 1, none⟩))) (by rw [Nat.zero_add, Nat.mul_one])) ?_)))
  refine TO.l rfl (l_sb (v := .int .u8 ((dgt u : Nat) : Int)) (vs := [.int .u8 ((dgt u : Nat) : Int)]) 0 inf5 rfl rfl rfl rfl rfl rfl (by have := hA.1; simp; omega) ?_)
  refine TO.nl (T.s (T.s (T.rg ?_)))
  refine TO.qm rfl ?_
  refine TO.nl ?_
  refine T.cond0 rfl ?_
  refine T.skip (T.s (T.s (T.rg ?_)))
  refine TO.qm rfl ?_
  refine TO.nl ?_
  refine T.cond1 rfl ?_
  refine T.s (T.rg ?_)
  refine TO.qm rfl (TO.qm rfl (TO.q (q_sliceAF (l := 65 - ds.length - 1) underlying180 inf5 rfl rfl (by omega)) ?_))
  refine TO.l rfl (l_appendAF (new := byts (hexL w0)) (o := 65 - ds.length - 1) 0 1 underlying46 underlying46 inf5 rfl rfl rfl rfl (by simp) (by rw [hx1]; simp; omega) rfl (hA.fin hx2 hx1) (by simp [oneB]) (by omega) (by decide) (by decide) (fun b2 c2 => ?_))
  refine TO.qa rfl ?_
  refine TO.nl (T.ret (Res.drop ?_))
  refine Res.two (.slice b2 (l.length + (65 - (65 - ds.length - 1))) c2) (.string ⟨#[]⟩) Tryz.results130 rfl rfl ?_
  have hlen : (hexL w0).length = 65 - (65 - ds.length - 1) := by rw [hx1]; simp; omega
  exact ⟨[rowI b2 c2 5 1 (byts l ++ byts (hexL w0))], (by exact Sub.d (.k .z)), b2, c2, by rw [hlen], rfl⟩
theorem appF2 (base : World) [Tab Tryz.prog base] (b : Option Addr) (c : Nat) (l : List Nat) (w0 : Nat) (hw : w0 < 18446744073709551616) (hl : l.length < 1000000) :
    CallT Tryz.prog base 110 [.slice b l.length c, .int .u64 ((w0 : Nat) : Int), .int .i64 16] [rowI b c 5 1 (byts l)] (fun v O' => ∃ b2 c2, v = .slice b2 (l.length + (hexL w0).length) c2 ∧ O' = [rowI b2 c2 5 1 (byts l ++ byts (hexL w0))]) := by
  refine CallT.enter func110 rfl ntmps110 rfl ?_
  refine T.s (T.rg ?_)
  refine TO.qa rfl ?_
  refine TO.nl (T.s (T.s (T.rg ?_)))
  refine TO.qm rfl (TO.q (QT.toB (q_eql rfl rfl) (decide_eq_false (by decide))) ?_)
  refine TO.nl ?_
  refine T.cond0 rfl ?_
  refine T.skip (T.s (T.rg ?_))
  refine TO.qm rfl (TO.qm rfl (TO.qm rfl ?_))
  have hk32 := fmtF base b c l w0 hw hl
  refine TO.l rfl (l_call ent130 hk32 rfl ?_)
  clear hk32
  rintro vr O' ⟨b2, c2, rfl, rfl⟩
  refine TO.qm rfl (TO.q (q_extract (vs := _) rfl rfl) (TO.q (q_extract (vs := _) rfl rfl) (TO.qa rfl ?_)))
  refine TO.nl (T.s (T.rg ?_))
  refine TO.qm rfl (TO.qa rfl ?_)
  refine TO.nl (T.ret ?_)
  refine Res.one (.slice b2 (l.length + (hexL w0).length) c2) Tryz.results110 rfl ?_
  exact ⟨_, _, rfl, rfl⟩
theorem appF3 (base : World) [Tab Tryz.prog base] (b : Option Addr) (c : Nat) (l : List Nat) (w0 : Nat) (hw : w0 < 18446744073709551616) (hl : l.length < 1000000) :
    CallT Tryz.prog base 85 [.slice b l.length c, .int .u64 ((w0 : Nat) : Int), .int .i64 16] [rowI b c 5 1 (byts l)] (fun v O' => ∃ b2 c2, v = .slice b2 (l.length + (hexL w0).length) c2 ∧ O' = [rowI b2 c2 5 1 (byts l ++ byts (hexL w0))]) := by
  refine CallT.enter func85 rfl ntmps85 rfl ?_
  refine T.s (T.rg ?_)
  refine TO.qa rfl ?_
  refine TO.nl (T.s (T.rg ?_))
  refine TO.qm rfl (TO.qm rfl (TO.qm rfl ?_))
  have hk10 := appF2 base b c l w0 hw hl
  refine TO.l rfl (l_call ent110 hk10 rfl ?_)
  clear hk10
  rintro vr O' ⟨b2, c2, rfl, rfl⟩
  refine TO.qa rfl ?_
  refine TO.nl (T.ret ?_)
  refine Res.one (.slice b2 (l.length + (hexL w0).length) c2) Tryz.results85 rfl ?_
  exact ⟨_, _, rfl, rfl⟩
theorem keyC (w : World) [Tab Tryz.prog w] (b : Option Addr) (m : Nat) (hb : Sl w b (uns [m])) (hw : m < 18446744073709551616) :
    PureT Tryz.prog 50 [.slice b 1 1] w fun v N => v = str (keyM m) ∧ N = [] := by
  refine CallT.enter func50 rfl ntmps50 rfl ?_
  have hhl : (hexL m).length ≤ 16 := hexF_len 16 m
  refine T.s (T.rg ?_)
  refine TO.qa rfl ?_
  refine TO.nl (T.s (T.rg ?_))
  refine TO.qa rfl ?_
  refine TO.nl (T.s (T.s (T.rg ?_)))
  refine TO.qm rfl (TO.q (QT.cast (q_len underlying67 rfl) (v' := .int .i64 1) rfl) (TO.qm rfl ?_))
  refine TO.nl (T.block ?_)
  refine T.rounds 2 (T.round ?_)
  refine T.s (T.rg ?_)
  refine TO.q (QT.toB (q_lss rfl rfl) (b' := true) rfl) ?_
  refine TO.nl (T.s ?_)
  refine T.cond1 rfl ?_
  refine T.skip (T.s (T.block (T.s (T.rg ?_))))
  refine TO.q (q_ix (i := 0) underlying67 inf107 rfl rfl (Sl.o hb) (by decide) (by simp)) (TO.q (q_ld underlying107 rfl rfl (Sl.o hb) rfl) (TO.qa rfl ?_))
  refine TO.nl ?_
  refine T.nilRow 5 1 ?_
  refine T.rg ?_
  refine TO.qm rfl (TO.qm rfl ?_)
  have hk14 := appF3 w none 0 [] m hw (by decide)
  refine TO.l rfl (l_call ent85 hk14 rfl ?_)
  clear hk14
  rintro vr O' ⟨b2, c2, rfl, rfl⟩
  refine TO.l rfl (l_build1 (v := .int .u8 32) underlying46 inf5 rfl rfl rfl (fun bx1 => ?_))
  refine TO.l rfl (l_append 1 underlying46 underlying46 inf5 rfl rfl rfl rfl (by simp) (by decide) (Src.row (j := 0) rfl (by simp)) (by simp [oneB]) (by simp only [List.length_nil]; omega) (by decide) (by decide) (fun bx2 c3 => ?_))
  refine TO.qa rfl ?_
  refine TO.nl (T.rg ?_)
  refine TO.q (QT.cast (q_add64 rfl rfl (by omega)) (v' := .int .i64 1) rfl) (TO.qm rfl ?_)
  refine TO.nl ?_
  refine Rnd.reset [rowI (some ⟨bx1, 0, none⟩) 1 5 1 [.int .u8 32], rowI bx2 c3 5 1 ((byts [] ++ byts (hexL m)) ++ [.int .u8 32])] [(0, (.slice b 1 1)), (2, .string ⟨#[]⟩), (3, (.slice bx2 ((0 + (hexL m).length) + 1) c3)), (5, .int .u64 ((m : Nat) : Int)), (6, (.slice b 1 1)), (7, .int .i64 1), (8, .int .i64 1)] rfl ⟨rfl, rfl, rfl, rfl, rfl, rfl, rfl, trivial⟩ (fun ρ0 => ?_)
  refine T.round ?_
  refine T.s (T.rg ?_)
  refine TO.q (QT.toB (q_lss rfl rfl) (b' := false) rfl) ?_
  refine TO.nl (T.s ?_)
  refine T.cond0 rfl ?_
  refine T.exit ?_
  refine T.s ?_
  refine T.sub (O' := [rowI bx2 c3 5 1 (cells8 (keyM m))]) (by rw [← keyM_cells]; exact Sub.d (.k .z)) ?_
  refine T.rg ?_
  refine TO.qm rfl (TO.q (q_b2s (l := keyM m) underlying46 underlying9 underlying5 rfl (mG 0 rfl) (keyM_len m)) (TO.qa rfl ?_))
  refine TO.nl (T.ret (Res.drop ?_))
  refine Res.one (str (keyM m)) Tryz.results50 rfl ?_
  exact ⟨[], Sub.z, rfl, rfl⟩
end Go.Proofs.YtohkmggbfcnapaaGreatDoor

