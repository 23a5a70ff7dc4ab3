/- Contracts of functions of the program (P7, Over, P8, P6, P5, P9, BolA, Run): what each call answers and that it leaves memory as it was. Conditions: those each theorem names. -/
import Derived.Test.YtdaapdamcekkgaaDoorP4
import Derived.Test.YtdaapdamcekkgaaDoorRen
import Derived.Test.YtdaapdamcekkgaaDoorDec
import Derived.Test.YtdaapdamcekkgaaDoorBol2
import Derived.Test.YtdaapdamcekkgaaDoorCoreR
set_option linter.unusedSectionVars false
set_option linter.unusedSimpArgs false
set_option linter.unusedVariables false
set_option linter.unnecessarySimpa false
namespace Go.Proofs.YtdaapdamcekkgaaDoor
open Go.Lx Go.RowKit
set_option linter.unusedVariables false
set_option linter.unusedSimpArgs false
set_option maxHeartbeats 1000000 in
set_option maxRecDepth 20000 in
theorem refVal (w : World) (op : Int) (x y : Bool) : PureT Tryd.prog 73 [.int .i64 op, .bool x, .bool y] w fun v N => v = .bool (opB op x y) ∧ N = [] := by
  refine CallT.enter Tryd.func73 rfl Tryd.ntmps73 rfl ?_
  refine T.seq (T.region ?_)
  refine TO.quiet (q_assign rfl) ?_
  refine TO.nil (T.seq (T.seq (T.region ?_)))
  refine TO.quiet (q_move rfl) ?_
  refine TO.nil (T.block (T.seq (T.region ?_)))
  refine TO.quiet (q_eql rfl rfl) (TO.quiet (q_assign rfl) ?_)
  refine TO.nil ?_
  refine T.condP rfl (fun hc => ?_) (fun hc => ?_)
  · refine T.seq ?_
    refine T.region ?_
    refine TO.quiet (q_move rfl) ?_
    by_cases hs11 : x = true
    · refine TO.quiet (QT.toB (q_move rfl) (hs11)) ?_
      refine TO.guarded rfl rfl rfl (LT.of_quiet rfl rfl (q_move rfl) ?_)
      refine TO.quiet (q_pick1 rfl rfl) (TO.quiet (q_assign rfl) ?_)
      refine TO.nil (T.ret ?_)
      refine Res.one (.bool y) Tryd.results73 rfl ?_
      unfold opB
      cases x <;> cases y <;> first | (exfalso; simp_all; done) | (simp_all [andB, orB, xorB, minusB]; done) | (subst_vars; exact ⟨rfl, rfl⟩)
    refine TO.quiet (QT.toB (q_move rfl) (Bool.eq_false_iff.2 hs11)) ?_
    refine TO.passed rfl rfl ?_
    refine TO.quiet (q_pick0 rfl rfl) (TO.quiet (q_assign rfl) ?_)
    refine TO.nil (T.ret ?_)
    refine Res.one (.bool false) Tryd.results73 rfl ?_
    unfold opB
    cases x <;> cases y <;> first | (exfalso; simp_all; done) | (simp_all [andB, orB, xorB, minusB]; done) | (subst_vars; exact ⟨rfl, rfl⟩)
  refine T.seq (T.region ?_)
  refine TO.quiet (q_eql rfl rfl) (TO.quiet (q_assign rfl) ?_)
  refine TO.nil ?_
  refine T.condP rfl (fun hc => ?_) (fun hc => ?_)
  · refine T.seq ?_
    refine T.region ?_
    refine TO.quiet (q_move rfl) ?_
    by_cases hs17 : x = true
    · refine TO.quiet (QT.toB (q_move rfl) (hs17)) ?_
      refine TO.passed rfl rfl ?_
      refine TO.quiet (q_pick1 rfl rfl) (TO.quiet (q_assign rfl) ?_)
      refine TO.nil (T.ret ?_)
      refine Res.one (.bool true) Tryd.results73 rfl ?_
      unfold opB
      cases x <;> cases y <;> first | (exfalso; simp_all; done) | (simp_all [andB, orB, xorB, minusB]; done) | (subst_vars; exact ⟨rfl, rfl⟩)
    refine TO.quiet (QT.toB (q_move rfl) (Bool.eq_false_iff.2 hs17)) ?_
    refine TO.guarded rfl rfl rfl (LT.of_quiet rfl rfl (q_move rfl) ?_)
    refine TO.quiet (q_pick0 rfl rfl) (TO.quiet (q_assign rfl) ?_)
    refine TO.nil (T.ret ?_)
    refine Res.one (.bool y) Tryd.results73 rfl ?_
    unfold opB
    cases x <;> cases y <;> first | (exfalso; simp_all; done) | (simp_all [andB, orB, xorB, minusB]; done) | (subst_vars; exact ⟨rfl, rfl⟩)
  refine T.seq (T.region ?_)
  refine TO.quiet (q_eql rfl rfl) (TO.quiet (q_assign rfl) ?_)
  refine TO.nil ?_
  refine T.condP rfl (fun hc => ?_) (fun hc => ?_)
  · refine T.seq ?_
    refine T.region ?_
    refine TO.quiet (q_move rfl) (TO.quiet (q_move rfl) (TO.quiet (q_bneq Tryd.underlying4 rfl rfl) (TO.quiet (q_assign rfl) ?_)))
    refine TO.nil (T.ret ?_)
    refine Res.one (.bool (x != y)) Tryd.results73 rfl ?_
    unfold opB
    cases x <;> cases y <;> first | (exfalso; simp_all; done) | (simp_all [andB, orB, xorB, minusB]; done) | (subst_vars; exact ⟨rfl, rfl⟩)
  refine T.skip (T.seq (T.region ?_))
  refine TO.quiet (q_move rfl) ?_
  by_cases hs26 : x = true
  · refine TO.quiet (QT.toB (q_move rfl) (hs26)) ?_
    refine TO.guarded rfl rfl rfl (LT.of_quiet rfl rfl (q_move rfl) ?_)
    refine TO.guarded rfl rfl rfl (LT.of_quiet rfl rfl (q_not rfl) ?_)
    refine TO.quiet (q_pick1 rfl rfl) (TO.quiet (q_assign rfl) ?_)
    refine TO.nil (T.ret ?_)
    refine Res.one (.bool (!y)) Tryd.results73 rfl ?_
    unfold opB
    cases x <;> cases y <;> first | (exfalso; simp_all; done) | (simp_all [andB, orB, xorB, minusB]; done) | (subst_vars; exact ⟨rfl, rfl⟩)
  refine TO.quiet (QT.toB (q_move rfl) (Bool.eq_false_iff.2 hs26)) ?_
  refine TO.passed rfl rfl ?_
  refine TO.passed rfl rfl ?_
  refine TO.quiet (q_pick0 rfl rfl) (TO.quiet (q_assign rfl) ?_)
  refine TO.nil (T.ret ?_)
  refine Res.one (.bool false) Tryd.results73 rfl ?_
  unfold opB
  cases x <;> cases y <;> first | (exfalso; simp_all; done) | (simp_all [andB, orB, xorB, minusB]; done) | (subst_vars; exact ⟨rfl, rfl⟩)
set_option maxHeartbeats 1000000 in
set_option maxRecDepth 20000 in
theorem refWrong (w : World) (a b : DFA) (j k : DK) (ha : At w a j) (hb : At w b k) (haa : a.next.length < 9223372036854775807) (haar : ∀ r ∈ a.next, r.length < 9223372036854775807) (haaf : a.final.length < 9223372036854775807) (hbb : b.next.length < 9223372036854775807) (hbbr : ∀ r ∈ b.next, r.length < 9223372036854775807) (hbbf : b.final.length < 9223372036854775807) : PureT Tryd.prog 48 [dV a j, dV b k] w fun v N => v = .int .i64 (wrongD a b : Int) ∧ N = [] := by
  refine CallT.enter Tryd.func48 rfl Tryd.ntmps48 rfl ?_
  refine T.seq (T.region ?_)
  refine TO.loud rfl (l_box (v := (dV a j)) (cs := (dC a j)) rfl rfl (fun bx1 => ?_))
  refine TO.loud rfl (l_box (v := (dV b k)) (cs := (dC b k)) rfl rfl (fun bx2 => ?_))
  refine TO.quiet (q_assign rfl) ?_
  refine TO.nil (T.seq (T.region ?_))
  refine TO.quiet (q_load_boxAgg 1 Tryd.underlying25 rfl inf25 rfl rfl rfl) ?_
  have hk7 := fun (w1 : World) (hI : Inv w [oI bx2 25 (dC b k), oI bx1 25 (dC a j)] w1) => refCheck w1 a j.nb j.fb j.nc j.fc (vals j.qs) (hI.dfa ha) haa haar haaf
  refine TO.loud rfl (l_call ent37 (CallT.of_pure hk7) rfl ?_)
  clear hk7
  rintro vr O' ⟨N, rfl, rfl, rfl⟩
  refine TO.quiet (q_assign rfl) ?_
  refine TO.nil (T.seq (T.seq (T.region ?_)))
  refine TO.quiet (q_move rfl) (TO.quiet (q_eql rfl rfl) ?_)
  refine TO.nil ?_
  refine T.condP rfl (fun hc => ?_) (fun hc => ?_)
  · have hlt9 : checkD a = 0 := by omega
    refine T.region ?_
    refine TO.quiet (q_load_boxAgg 0 Tryd.underlying25 rfl inf25 rfl rfl rfl) ?_
    have hk11 := fun (w1 : World) (hI : Inv w [oI bx2 25 (dC b k), oI bx1 25 (dC a j)] w1) => refCheck w1 b k.nb k.fb k.nc k.fc (vals k.qs) (hI.dfa hb) hbb hbbr hbbf
    refine TO.loud rfl (l_call ent37 (CallT.of_pure hk11) rfl ?_)
    clear hk11
    rintro vr O' ⟨N, rfl, rfl, rfl⟩
    refine TO.quiet (q_assign rfl) ?_
    refine TO.nil (T.seq (T.seq (T.region ?_)))
    refine TO.quiet (q_move rfl) (TO.quiet (q_eql rfl rfl) ?_)
    by_cases hs14 : (checkD b : Int) = 0
    · refine TO.quiet (QT.toB (q_move rfl) (decide_eq_true hs14)) ?_
      refine TO.guarded rfl rfl rfl (LT.of_quiet rfl rfl (q_fieldAddr Tryd.underlying25 rfl inf3 rfl rfl) ?_)
      refine TO.guarded rfl rfl rfl (LT.of_quiet rfl rfl (q_load_box 1 Tryd.underlying3 rfl rfl rfl rfl) ?_)
      refine TO.guarded rfl rfl rfl (LT.of_quiet rfl rfl (q_fieldAddr Tryd.underlying25 rfl inf3 rfl rfl) ?_)
      refine TO.guarded rfl rfl rfl (LT.of_quiet rfl rfl (q_load_box 0 Tryd.underlying3 rfl rfl rfl rfl) ?_)
      refine TO.guarded rfl rfl rfl (LT.of_quiet rfl rfl (q_neq rfl rfl) ?_)
      refine TO.quiet (q_pick1 rfl rfl) ?_
      refine TO.nil ?_
      refine T.condP rfl (fun hc => ?_) (fun hc => ?_)
      · refine T.region ?_
        refine TO.quiet (q_assign rfl) ?_
        refine TO.nil (T.seq (T.region ?_))
        refine TO.quiet (q_move rfl) (TO.quiet (q_assign rfl) ?_)
        refine TO.nil (T.ret (Res.drop ?_))
        refine Res.one (.int .i64 7) Tryd.results48 rfl ?_
        exact ⟨[], Sub.z, by unfold wrongD; congr 1; (repeat' split) <;> first | omega | (simp_all; done) | (simp_all; omega), rfl⟩
      refine T.skip (T.seq (T.region ?_))
      refine TO.quiet (q_move rfl) (TO.quiet (q_assign rfl) ?_)
      refine TO.nil (T.ret (Res.drop ?_))
      refine Res.one (.int .i64 (checkD b : Int)) Tryd.results48 rfl ?_
      exact ⟨[], Sub.z, by unfold wrongD; congr 1; (repeat' split) <;> first | omega | (simp_all; done) | (simp_all; omega), rfl⟩
    refine TO.quiet (QT.toB (q_move rfl) (decide_eq_false hs14)) ?_
    refine TO.passed rfl rfl ?_
    refine TO.passed rfl rfl ?_
    refine TO.passed rfl rfl ?_
    refine TO.passed rfl rfl ?_
    refine TO.passed rfl rfl ?_
    refine TO.quiet (q_pick0 rfl rfl) ?_
    refine TO.nil ?_
    refine T.cond0 rfl ?_
    refine T.skip (T.seq (T.region ?_))
    refine TO.quiet (q_move rfl) (TO.quiet (q_assign rfl) ?_)
    refine TO.nil (T.ret (Res.drop ?_))
    refine Res.one (.int .i64 (checkD b : Int)) Tryd.results48 rfl ?_
    exact ⟨[], Sub.z, by unfold wrongD; congr 1; (repeat' split) <;> first | omega | (simp_all; done) | (simp_all; omega), rfl⟩
  have hge9 : ¬ checkD a = 0 := by omega
  refine T.skip (T.seq (T.seq (T.region ?_)))
  refine TO.quiet (q_move rfl) (TO.quiet (q_eql rfl rfl) ?_)
  by_cases hs14 : (checkD a : Int) = 0
  · refine TO.quiet (QT.toB (q_move rfl) (decide_eq_true hs14)) ?_
    refine TO.guarded rfl rfl rfl (LT.of_quiet rfl rfl (q_fieldAddr Tryd.underlying25 rfl inf3 rfl rfl) ?_)
    refine TO.guarded rfl rfl rfl (LT.of_quiet rfl rfl (q_load_box 1 Tryd.underlying3 rfl rfl rfl rfl) ?_)
    refine TO.guarded rfl rfl rfl (LT.of_quiet rfl rfl (q_fieldAddr Tryd.underlying25 rfl inf3 rfl rfl) ?_)
    refine TO.guarded rfl rfl rfl (LT.of_quiet rfl rfl (q_load_box 0 Tryd.underlying3 rfl rfl rfl rfl) ?_)
    refine TO.guarded rfl rfl rfl (LT.of_quiet rfl rfl (q_neq rfl rfl) ?_)
    refine TO.quiet (q_pick1 rfl rfl) ?_
    refine TO.nil ?_
    refine T.condP rfl (fun hc => ?_) (fun hc => ?_)
    · refine T.region ?_
      refine TO.quiet (q_assign rfl) ?_
      refine TO.nil (T.seq (T.region ?_))
      refine TO.quiet (q_move rfl) (TO.quiet (q_assign rfl) ?_)
      refine TO.nil (T.ret (Res.drop ?_))
      refine Res.one (.int .i64 7) Tryd.results48 rfl ?_
      exact ⟨[], Sub.z, by unfold wrongD; congr 1; (repeat' split) <;> first | omega | (simp_all; done) | (simp_all; omega), rfl⟩
    refine T.skip (T.seq (T.region ?_))
    refine TO.quiet (q_move rfl) (TO.quiet (q_assign rfl) ?_)
    refine TO.nil (T.ret (Res.drop ?_))
    refine Res.one (.int .i64 (checkD a : Int)) Tryd.results48 rfl ?_
    exact ⟨[], Sub.z, by unfold wrongD; congr 1; (repeat' split) <;> first | omega | (simp_all; done) | (simp_all; omega), rfl⟩
  refine TO.quiet (QT.toB (q_move rfl) (decide_eq_false hs14)) ?_
  refine TO.passed rfl rfl ?_
  refine TO.passed rfl rfl ?_
  refine TO.passed rfl rfl ?_
  refine TO.passed rfl rfl ?_
  refine TO.passed rfl rfl ?_
  refine TO.quiet (q_pick0 rfl rfl) ?_
  refine TO.nil ?_
  refine T.cond0 rfl ?_
  refine T.skip (T.seq (T.region ?_))
  refine TO.quiet (q_move rfl) (TO.quiet (q_assign rfl) ?_)
  refine TO.nil (T.ret (Res.drop ?_))
  refine Res.one (.int .i64 (checkD a : Int)) Tryd.results48 rfl ?_
  exact ⟨[], Sub.z, by unfold wrongD; congr 1; (repeat' split) <;> first | omega | (simp_all; done) | (simp_all; omega), rfl⟩
set_option maxHeartbeats 1000000 in
set_option maxRecDepth 20000 in
theorem refProd (w : World) (op : Int) (a b : DFA) (j k : DK) (ha : At w a j) (hb : At w b k) (va : Valid a) (vb : Valid b) (hv : a.vars = b.vars) :
    PureT Tryd.prog 49 [.int .i64 op, dV a j, dV b k] w fun v N => ∃ k' : DK, v = dV (prodD (opB op) a b) k' ∧ N = [dI 52 4 3 (prodD (opB op) a b) k'] := by
  refine CallT.enter Tryd.func49 rfl Tryd.ntmps49 rfl ?_
  have ha1 := ha.rows.1
  have hb1 := hb.rows.1
  have hs1 : a.start = ((a.start.toNat : Nat) : Int) := by have := va.s0; omega
  have hs2 : b.start = ((b.start.toNat : Nat) : Int) := by have := vb.s0; omega
  have hs1l := start_lt va
  have hs2l := start_lt vb
  have hA4 := va.n4
  have hB4 := vb.n4
  have hm1 : a.start.toNat * b.next.length ≤ 4096 * 4096 := Nat.mul_le_mul (by omega) (by omega)
  obtain ⟨L, hL⟩ : ∃ L, 2 ^ a.vars.toNat = L := ⟨_, rfl⟩
  have hw : L ≤ 64 := by rw [← hL]; exact va.width
  have h4 : a.next.length * b.next.length ≤ 4096 * 4096 := Nat.mul_le_mul va.n4 vb.n4
  refine T.seq (T.region ?_)
  refine TO.loud rfl (l_box (v := (dV a j)) (cs := (dC a j)) rfl rfl (fun z1 => ?_))
  refine TO.loud rfl (l_box (v := (dV b k)) (cs := (dC b k)) rfl rfl (fun z2 => ?_))
  refine TO.loud rfl (l_alloc inf25 rfl (fun z3 => ?_))
  refine TO.nil (T.seq (T.region ?_))
  refine TO.quiet (q_fieldAddr Tryd.underlying25 rfl inf22 rfl rfl) (TO.quiet (q_load_box 1 Tryd.underlying22 rfl rfl rfl rfl) (TO.quiet (q_len Tryd.underlying22 rfl) (TO.quiet (q_assign rfl) ?_)))
  refine TO.nil (T.seq (T.region ?_))
  refine TO.quiet (q_fieldAddr Tryd.underlying25 rfl inf3 rfl rfl) (TO.quiet (q_load_box 2 Tryd.underlying3 rfl rfl rfl rfl) (TO.quiet (q_fieldAddr Tryd.underlying25 rfl inf3 rfl rfl) (TO.quiet (QT.cast (q_load_box 2 Tryd.underlying3 rfl rfl rfl rfl) (v' := .int .i64 ((a.start.toNat : Nat) : Int)) (by rw [← hs1])) ?_)))
  refine TO.quiet (q_move rfl) (TO.quiet (q_mulN (a := a.start.toNat) (b := b.next.length) rfl rfl (by omega)) (TO.quiet (q_fieldAddr Tryd.underlying25 rfl inf3 rfl rfl) (TO.quiet (QT.cast (q_load_box 1 Tryd.underlying3 rfl rfl rfl rfl) (v' := .int .i64 ((b.start.toNat : Nat) : Int)) (by rw [← hs2])) ?_)))
  refine TO.quiet (q_addN (a := (a.start.toNat * b.next.length)) (b := b.start.toNat) rfl rfl (by omega)) (TO.quiet (q_build (cs := [(.int .i64 a.vars), .int .i64 (((a.start.toNat * b.next.length) + b.start.toNat : Nat) : Int), (.slice none 0 0), (.slice none 0 0)]) plan25 inf25 (by kernel_rfl)) ?_)
  refine TO.loud rfl (l_alloc inf25 rfl (fun z4 => ?_))
  refine TO.loud rfl (l_store_box (v := (.agg #[(.int .i64 a.vars), .int .i64 (((a.start.toNat * b.next.length) + b.start.toNat : Nat) : Int), (.slice none 0 0), (.slice none 0 0)])) (vs := [(.int .i64 a.vars), .int .i64 (((a.start.toNat * b.next.length) + b.start.toNat : Nat) : Int), (.slice none 0 0), (.slice none 0 0)]) 0 inf25 rfl rfl rfl rfl rfl rfl (by simp [putL]) ?_)
  refine TO.nil (T.seq (T.seq (T.region ?_)))
  refine TO.quiet (q_assign rfl) ?_
  refine TO.nil (T.block ?_)
  refine T.nilRow 4 1 ?_
  refine T.nilRow 52 1 ?_
  refine T.loop (fun (s : Nat) ρ O => ∃ (nbm fbm : Option Addr) (ncm fcm n1 n2 : Nat) (qs : List Rec) (fs : List Bool), O = ([rowI nbm ncm 52 1 (vals qs), rowI fbm fcm 4 1 (bools fs), oI z4 25 [(.int .i64 a.vars), (.int .i64 ((a.start.toNat * b.next.length + b.start.toNat : Nat) : Int)), (.slice nbm n1 ncm), (.slice fbm n2 fcm)], oI z3 25 [(.int .i64 0), (.int .i64 0), (.slice none 0 0), (.slice none 0 0)], oI z2 25 (dC b k), oI z1 25 (dC a j)] ++ (itms 3 qs)) ∧ s ≤ a.next.length ∧ n1 = s * b.next.length ∧ n2 = s * b.next.length ∧ qs.length = s * b.next.length ∧ fs.length = s * b.next.length ∧ nums qs = (prNext a b).take (s * b.next.length) ∧ fs = (prFin (opB op) a b).take (s * b.next.length) ∧ Heads [(0, .int .i64 op), (1, (dV a j)), (2, (dV b k)), (4, (.pointer (some ⟨z1, 0, none⟩))), (5, (.pointer (some ⟨z2, 0, none⟩))), (6, (.pointer (some ⟨z3, 0, none⟩))), (7, .int .i64 (b.next.length : Int)), (8, (.pointer (some ⟨z4, 0, none⟩))), (9, .int .i64 ((s : Nat) : Int))] ρ) (fun s => a.next.length - s) 0 ?_ ?_
  · refine ⟨none, none, 0, 0, 0, 0, [], [], rfl, Nat.zero_le _, ?_, ?_, ?_, ?_, ?_, ?_, ⟨rfl, rfl, rfl, rfl, rfl, rfl, rfl, rfl, rfl, trivial⟩⟩ <;> simp
  rintro s ρ O ⟨nbm, fbm, ncm, fcm, n1, n2, qs, fs, rfl, hsA, hn1, hn2, hql, hfl, hqs, hfs, hH⟩
  obtain ⟨ρ0, rfl⟩ := hH.elim
  clear hH
  refine T.seq (T.seq (T.region ?_))
  refine TO.quiet (q_move rfl) (TO.quiet (q_fieldAddr Tryd.underlying25 rfl inf22 rfl rfl) (TO.quiet (q_load_box 5 Tryd.underlying22 rfl rfl rfl rfl) (TO.quiet (q_len Tryd.underlying22 rfl) ?_)))
  refine TO.quiet (q_lss rfl rfl) ?_
  refine TO.nil ?_
  refine T.condP rfl (fun hc => ?_) (fun hc => ?_)
  · have hlt30 : s < a.next.length := by omega
    obtain ⟨v1, c1, g1, s1⟩ := ha.rows.get hlt30
    have ra : a.next[s].length = L := by rw [va.len _ (List.getElem_mem hlt30)]; exact hL
    refine T.skip (T.seq (T.block (T.seq (T.region ?_))))
    refine TO.quiet (q_assign rfl) ?_
    refine TO.nil (T.block ?_)
    refine T.loop (fun (t : Nat) ρ O => ∃ (nbm fbm : Option Addr) (ncm fcm n1 n2 : Nat) (qs : List Rec) (fs : List Bool), O = ([rowI nbm ncm 52 1 (vals qs), rowI fbm fcm 4 1 (bools fs), oI z4 25 [(.int .i64 a.vars), (.int .i64 ((a.start.toNat * b.next.length + b.start.toNat : Nat) : Int)), (.slice nbm n1 ncm), (.slice fbm n2 fcm)], oI z3 25 [(.int .i64 0), (.int .i64 0), (.slice none 0 0), (.slice none 0 0)], oI z2 25 (dC b k), oI z1 25 (dC a j)] ++ (itms 3 qs)) ∧ t ≤ b.next.length ∧ n1 = s * b.next.length + t ∧ n2 = s * b.next.length + t ∧ qs.length = s * b.next.length + t ∧ fs.length = s * b.next.length + t ∧ nums qs = (prNext a b).take (s * b.next.length + t) ∧ fs = (prFin (opB op) a b).take (s * b.next.length + t) ∧ Heads [(0, .int .i64 op), (1, (dV a j)), (2, (dV b k)), (4, (.pointer (some ⟨z1, 0, none⟩))), (5, (.pointer (some ⟨z2, 0, none⟩))), (6, (.pointer (some ⟨z3, 0, none⟩))), (7, .int .i64 (b.next.length : Int)), (8, (.pointer (some ⟨z4, 0, none⟩))), (9, .int .i64 ((s : Nat) : Int)), (10, .int .i64 ((t : Nat) : Int))] ρ) (fun t => b.next.length - t) 0 ?_ ?_
    · exact ⟨nbm, fbm, ncm, fcm, n1, n2, qs, fs, rfl, Nat.zero_le _, hn1, hn2, hql, hfl, hqs, hfs, ⟨rfl, rfl, rfl, rfl, rfl, rfl, rfl, rfl, rfl, rfl, trivial⟩⟩
    rintro t ρ O ⟨nbm, fbm, ncm, fcm, n1, n2, qs, fs, rfl, htB, hn1, hn2, hql, hfl, hqs, hfs, hH⟩
    obtain ⟨ρ0, rfl⟩ := hH.elim
    clear hH
    refine T.seq (T.seq (T.region ?_))
    refine TO.quiet (q_move rfl) (TO.quiet (q_move rfl) (TO.quiet (q_lss rfl rfl) ?_))
    refine TO.nil ?_
    refine T.condP rfl (fun hc => ?_) (fun hc => ?_)
    · have hlt35 : t < b.next.length := by omega
      obtain ⟨v2, c2, g2, s2⟩ := hb.rows.get hlt35
      have rb9 : b.next[t].length = L := by rw [vb.len _ (List.getElem_mem hlt35), ← hv]; exact hL
      have hst9 := pr_lt hlt30 hlt35
      refine T.skip (T.seq (T.block (T.seq (T.region ?_))))
      refine TO.quiet (q_assign rfl) ?_
      refine TO.nil (T.seq (T.seq (T.region ?_)))
      refine TO.quiet (q_assign rfl) ?_
      refine TO.nil (T.block ?_)
      refine T.nilRow 3 1 ?_
      refine T.loop (fun (x : Nat) ρ O => ∃ (rb : Option Addr) (rc : Nat) (ys : List Int), O = ([rowI rb rc 3 1 (ints ys), rowI nbm ncm 52 1 (vals qs), rowI fbm fcm 4 1 (bools fs), oI z4 25 [(.int .i64 a.vars), (.int .i64 ((a.start.toNat * b.next.length + b.start.toNat : Nat) : Int)), (.slice nbm n1 ncm), (.slice fbm n2 fcm)], oI z3 25 [(.int .i64 0), (.int .i64 0), (.slice none 0 0), (.slice none 0 0)], oI z2 25 (dC b k), oI z1 25 (dC a j)] ++ (itms 3 qs)) ∧ x ≤ L ∧ ys.length = x ∧ ys = (prRow a b s t).take x ∧ Heads [(0, .int .i64 op), (1, (dV a j)), (2, (dV b k)), (4, (.pointer (some ⟨z1, 0, none⟩))), (5, (.pointer (some ⟨z2, 0, none⟩))), (6, (.pointer (some ⟨z3, 0, none⟩))), (7, .int .i64 (b.next.length : Int)), (8, (.pointer (some ⟨z4, 0, none⟩))), (9, .int .i64 ((s : Nat) : Int)), (10, .int .i64 ((t : Nat) : Int)), (11, (.slice rb x rc)), (12, .int .i64 ((x : Nat) : Int))] ρ) (fun x => L - x) 0 ?_ ?_
      · exact ⟨none, 0, [], rfl, Nat.zero_le _, rfl, by simp, ⟨rfl, rfl, rfl, rfl, rfl, rfl, rfl, rfl, rfl, rfl, rfl, rfl, trivial⟩⟩
      rintro x ρ O ⟨rb, rc, ys, rfl, hx, hyl, hys, hH⟩
      obtain ⟨ρ0, rfl⟩ := hH.elim
      clear hH
      refine T.seq (T.seq (T.region ?_))
      refine TO.quiet (q_move rfl) (TO.quiet (q_fieldAddr Tryd.underlying25 rfl inf22 rfl rfl) (TO.quiet (q_load_box 6 Tryd.underlying22 rfl rfl rfl rfl) (TO.quiet (q_move rfl) ?_)))
      refine TO.quiet (q_ix (i := s) Tryd.underlying22 inf52 rfl rfl (Sl.o ha.outer) hlt30 (by rw [ha1]; exact hlt30)) (TO.quiet (q_ld Tryd.underlying52 rfl rfl (Sl.o ha.outer) g1) (TO.quiet (QT.cast (q_len Tryd.underlying52 rfl) (v' := .int .i64 ((L : Nat) : Int)) (by rw [ra])) (TO.quiet (q_lss rfl rfl) ?_)))
      refine TO.nil ?_
      refine T.condP rfl (fun hc => ?_) (fun hc => ?_)
      · have hlt45 : x < L := by omega
        have hxa : x < 2 ^ a.vars.toNat := by omega
        have hxb : x < 2 ^ b.vars.toNat := by rw [← hv]; exact hxa
        have x1 := toN_at va hlt30 hxa
        have x2 := toN_at vb hlt35 hxb
        have t1 := (va.toN_lt hlt30 hxa).1
        have t2 := (vb.toN_lt hlt35 hxb).1
        have hm2 : toN a s x * b.next.length ≤ 4096 * 4096 := Nat.mul_le_mul (by omega) (by omega)
        refine T.skip (T.seq (T.block ?_))
        refine T.draws [oI z4 25 [(.int .i64 a.vars), (.int .i64 ((a.start.toNat * b.next.length + b.start.toNat : Nat) : Int)), (.slice nbm n1 ncm), (.slice fbm n2 fcm)], oI z3 25 [(.int .i64 0), (.int .i64 0), (.slice none 0 0), (.slice none 0 0)], oI z2 25 (dC b k), oI z1 25 (dC a j)] [(0, 0), (1, 0), (2, 0), (3, 0), (4, 0), (5, 0), (6, 0), (7, 0), (8, 0), (9, 0), (10, 0), (11, 0), (12, 0), (13, 0), (14, 0), (15, 0), (16, 0), (17, 0), (18, 0), (19, 0), (20, 1), (21, 2), (22, 2)] mixed (by kernel_rfl) (by exact Sub.d (.d (.d (.k (.k (.k (.k .z))))))) (fun _ _ _ h => h) ?_
        refine DO.quiet rfl (q_move rfl) (DO.quiet rfl (q_fieldAddr Tryd.underlying25 rfl inf22 rfl rfl) (DO.quiet rfl (q_load_box 3 Tryd.underlying22 rfl rfl rfl rfl) (DO.quiet rfl (q_move rfl) ?_)))
        refine DO.quiet rfl (q_ix (i := s) Tryd.underlying22 inf52 rfl rfl (Sl.o ha.outer) hlt30 (by rw [ha1]; exact hlt30)) (DO.quiet rfl (q_ld Tryd.underlying52 rfl rfl (Sl.o ha.outer) g1) (DO.quiet rfl (q_move rfl) (DO.quiet rfl (q_ix (i := x) Tryd.underlying52 inf3 rfl rfl (Sl.o s1) (by omega) (by rw [List.length_map]; omega)) ?_)))
        refine DO.quiet rfl (q_ld Tryd.underlying3 rfl rfl (Sl.o s1) x1) (DO.quiet rfl (q_move rfl) (DO.quiet rfl (q_mulN (a := (toN a s x)) (b := b.next.length) rfl rfl (by omega)) (DO.quiet rfl (q_fieldAddr Tryd.underlying25 rfl inf22 rfl rfl) ?_)))
        refine DO.quiet rfl (q_load_box 2 Tryd.underlying22 rfl rfl rfl rfl) (DO.quiet rfl (q_move rfl) (DO.quiet rfl (q_ix (i := t) Tryd.underlying22 inf52 rfl rfl (Sl.o hb.outer) hlt35 (by rw [hb1]; exact hlt35)) (DO.quiet rfl (q_ld Tryd.underlying52 rfl rfl (Sl.o hb.outer) g2) ?_)))
        refine DO.quiet rfl (q_move rfl) (DO.quiet rfl (q_ix (i := x) Tryd.underlying52 inf3 rfl rfl (Sl.o s2) (by omega) (by rw [List.length_map]; omega)) (DO.quiet rfl (q_ld Tryd.underlying3 rfl rfl (Sl.o s2) x2) (DO.quiet rfl (q_addN (a := ((toN a s x) * b.next.length)) (b := (toN b t x)) rfl rfl (by omega)) ?_)))
        refine DO.loud rfl rfl (l_build1 (v := .int .i64 ((((toN a s x) * b.next.length) + (toN b t x) : Nat) : Int)) Tryd.underlying52 inf3 rfl rfl rfl (fun z5 => ⟨by exact Sub.d (.d (.d (.d (.k (.k (.k (.k .z))))))), ?_⟩))
        refine DO.last rfl rfl (l_append 1 Tryd.underlying52 Tryd.underlying52 inf3 rfl rfl rfl rfl (by first | (simp; done) | (simp; omega)) (by decide) (Src.row (j := 0) rfl (by simp)) (by simp [oneB]) (by omega) (by decide) (by decide) (fun z6 zc7 => ?_))
        refine DO.last rfl rfl (LT.of_quiet rfl rfl (q_assign rfl) ?_)
        refine DO.sub (O' := ([rowI z6 zc7 3 1 ((ints ys) ++ [.int .i64 ((((toN a s x) * b.next.length) + (toN b t x) : Nat) : Int)]), rowI nbm ncm 52 1 (vals qs), rowI fbm fcm 4 1 (bools fs), oI z4 25 [(.int .i64 a.vars), (.int .i64 ((a.start.toNat * b.next.length + b.start.toNat : Nat) : Int)), (.slice nbm n1 ncm), (.slice fbm n2 fcm)], oI z3 25 [(.int .i64 0), (.int .i64 0), (.slice none 0 0), (.slice none 0 0)], oI z2 25 (dC b k), oI z1 25 (dC a j)] ++ (itms 3 qs))) (by exact Sub.d (.k (.k (.k (.k (.k (.k (.k .rf)))))))) ?_
        refine DO.done ?_
        refine T.region ?_
        refine TO.quiet (q_move rfl) (TO.quiet (q_addN (a := x) (b := 1) rfl rfl (by omega)) (TO.quiet (q_assign rfl) ?_))
        refine TO.nil ?_
        refine ⟨x + 1, by omega, z6, zc7, ys ++ [((toN a s x * b.next.length + toN b t x : Nat) : Int)], ?_, by omega, by simp; omega, by rw [take_at (prRow_at hxa), ← hys], ⟨rfl, rfl, rfl, rfl, rfl, rfl, rfl, rfl, rfl, rfl, rfl, rfl, trivial⟩⟩
        rw [show ints (ys ++ [((toN a s x * b.next.length + toN b t x : Nat) : Int)]) = ints ys ++ [.int .i64 ((toN a s x * b.next.length + toN b t x : Nat) : Int)] by simp]
      have hge45 : ¬ x < L := by omega
      refine T.exit ?_
      refine T.seq (T.region ?_)
      refine TO.quiet (q_fieldAddr Tryd.underlying25 rfl inf22 rfl rfl) (TO.quiet (q_load_box 3 Tryd.underlying22 rfl rfl rfl rfl) (TO.quiet (q_move rfl) ?_))
      refine TO.loud rfl (l_build1 (v := (.slice rb x rc)) Tryd.underlying22 inf52 rfl rfl rfl (fun z8 => ?_))
      refine TO.loud rfl (l_append 2 Tryd.underlying22 Tryd.underlying22 inf52 rfl rfl rfl rfl (by first | (simp; done) | (simp; omega)) (by decide) (Src.row (j := 0) rfl (by simp)) (by simp [oneB]) (by omega) (by decide) (by decide) (fun z9 zc10 => ?_))
      refine TO.quiet (q_fieldAddr Tryd.underlying25 rfl inf22 rfl rfl) ?_
      refine TO.loud rfl (l_store_box (v := (.slice z9 (n1 + 1) zc10)) (vs := [(.slice z9 (n1 + 1) zc10)]) 4 inf22 rfl rfl rfl rfl rfl rfl (by simp [putL]) ?_)
      refine TO.nil ?_
      refine T.draws [oI z4 25 [(.int .i64 a.vars), (.int .i64 ((a.start.toNat * b.next.length + b.start.toNat : Nat) : Int)), (.slice z9 (n1 + 1) zc10), (.slice fbm n2 fcm)], oI z3 25 [(.int .i64 0), (.int .i64 0), (.slice none 0 0), (.slice none 0 0)], oI z2 25 (dC b k), oI z1 25 (dC a j)] [(0, 0), (1, 0), (2, 0), (3, 0), (4, 0), (5, 0), (6, 0), (7, 0), (8, 0), (9, 0), (10, 0), (11, 0), (12, 0), (13, 1), (14, 1), (15, 2), (16, 2), (17, 2)] mixed (by kernel_rfl) (by exact Sub.d (.d (.d (.d (.k (.k (.k (.k .z)))))))) (fun _ _ _ h => h) ?_
      refine DO.quiet rfl (q_fieldAddr Tryd.underlying25 rfl inf23 rfl rfl) (DO.quiet rfl (q_load_box 0 Tryd.underlying23 rfl rfl rfl rfl) (DO.quiet rfl (q_move rfl) (DO.quiet rfl (q_fieldAddr Tryd.underlying25 rfl inf23 rfl rfl) ?_)))
      refine DO.quiet rfl (q_load_box 3 Tryd.underlying23 rfl rfl rfl rfl) (DO.quiet rfl (q_move rfl) (DO.quiet rfl (q_ix (i := s) Tryd.underlying23 inf4 rfl rfl (Sl.o ha.final) (by rw [va.fin]; exact hlt30) (by rw [List.length_map, va.fin]; exact hlt30)) (DO.quiet rfl (q_ld Tryd.underlying4 rfl rfl (Sl.o ha.final) (finN_at va hlt30)) ?_)))
      refine DO.quiet rfl (q_fieldAddr Tryd.underlying25 rfl inf23 rfl rfl) (DO.quiet rfl (q_load_box 2 Tryd.underlying23 rfl rfl rfl rfl) (DO.quiet rfl (q_move rfl) (DO.quiet rfl (q_ix (i := t) Tryd.underlying23 inf4 rfl rfl (Sl.o hb.final) (by rw [vb.fin]; exact hlt35) (by rw [List.length_map, vb.fin]; exact hlt35)) ?_)))
      refine DO.quiet rfl (q_ld Tryd.underlying4 rfl rfl (Sl.o hb.final) (finN_at vb hlt35)) ?_
      have hk89 := fun (w1 : World) (hI : Inv w ([rowI (some ⟨z8, 0, none⟩) 1 52 1 [(.slice rb x rc)], rowI rb rc 3 1 (ints ys), rowI z9 zc10 52 1 ((vals qs) ++ [(.slice rb x rc)]), rowI fbm fcm 4 1 (bools fs), oI z4 25 [(.int .i64 a.vars), (.int .i64 ((a.start.toNat * b.next.length + b.start.toNat : Nat) : Int)), (.slice z9 (n1 + 1) zc10), (.slice fbm n2 fcm)], oI z3 25 [(.int .i64 0), (.int .i64 0), (.slice none 0 0), (.slice none 0 0)], oI z2 25 (dC b k), oI z1 25 (dC a j)] ++ (itms 3 qs)) w1) => refVal w1 op (finN a s) (finN b t)
      refine DO.loud rfl rfl (l_call ent73 (CallT.of_pure hk89) rfl ?_)
      clear hk89
      rintro vr O' ⟨N, rfl, rfl, rfl⟩
      refine ⟨by exact Sub.d (.d (.d (.d (.k (.k (.k (.k .z))))))), ?_⟩
      refine DO.loud rfl rfl (l_build1 (v := .bool (opB op (finN a s) (finN b t))) Tryd.underlying23 inf4 rfl rfl rfl (fun z11 => ⟨by exact Sub.d (.d (.d (.d (.d (.k (.k (.k (.k .z)))))))), ?_⟩))
      refine DO.last rfl rfl (l_append 4 Tryd.underlying23 Tryd.underlying23 inf4 rfl rfl rfl rfl (by first | (simp; done) | (simp; omega)) (by decide) (Src.row (j := 0) rfl (by simp)) (by simp [oneB]) (by omega) (by decide) (by decide) (fun z12 zc13 => ?_))
      refine DO.last rfl rfl (LT.of_quiet rfl rfl (q_fieldAddr Tryd.underlying25 rfl inf23 rfl rfl) ?_)
      refine DO.last rfl rfl (l_store_box (v := (.slice z12 (n2 + 1) zc13)) (vs := [(.slice z12 (n2 + 1) zc13)]) 5 inf23 rfl rfl rfl rfl rfl rfl (by simp [putL]) ?_)
      refine DO.done ?_
      have hxL : x = L := by omega
      have hyf : ys = prRow a b s t := by rw [hys, List.take_of_length_le (by rw [prRow_len]; show 2 ^ a.vars.toNat ≤ x; omega)]
      have hvq : vals (qs ++ [⟨rb, rc, ys⟩]) = (vals qs) ++ [(.slice rb x rc)] := by simp [Rec.val, hyl]
      have hbq : bools (fs ++ [opB op (finN a s) (finN b t)]) = (bools fs) ++ [.bool (opB op (finN a s) (finN b t))] := by simp
      refine T.sub (O' := ([rowI z9 zc10 52 1 ((vals qs) ++ [(.slice rb x rc)]), rowI z12 zc13 4 1 ((bools fs) ++ [.bool (opB op (finN a s) (finN b t))]), oI z4 25 [(.int .i64 a.vars), (.int .i64 ((a.start.toNat * b.next.length + b.start.toNat : Nat) : Int)), (.slice z9 (n1 + 1) zc10), (.slice z12 (n2 + 1) zc13)], oI z3 25 [(.int .i64 0), (.int .i64 0), (.slice none 0 0), (.slice none 0 0)], oI z2 25 (dC b k), oI z1 25 (dC a j), rowI rb rc 3 1 (ints ys)] ++ itms 3 qs)) (by exact Sub.d (.d (.pull [rowI rb rc 3 1 (ints ys)] _ (.pull [rowI rb rc 3 1 (ints ys)] _ (.pull [rowI rb rc 3 1 (ints ys)] _ (.pull [rowI rb rc 3 1 (ints ys)] _ (.pull [rowI rb rc 3 1 (ints ys)] _ (.pull [rowI rb rc 3 1 (ints ys)] _ (.k .rf))))))))) ?_
      refine T.sub (O' := ([rowI z9 zc10 52 1 (vals (qs ++ [⟨rb, rc, ys⟩])), rowI z12 zc13 4 1 (bools (fs ++ [opB op (finN a s) (finN b t)])), oI z4 25 [(.int .i64 a.vars), (.int .i64 ((a.start.toNat * b.next.length + b.start.toNat : Nat) : Int)), (.slice z9 (n1 + 1) zc10), (.slice z12 (n2 + 1) zc13)], oI z3 25 [(.int .i64 0), (.int .i64 0), (.slice none 0 0), (.slice none 0 0)], oI z2 25 (dC b k), oI z1 25 (dC a j)] ++ itms 3 (qs ++ [⟨rb, rc, ys⟩]))) (by rw [hvq, hbq]; exact Sub.foldN [rowI z9 zc10 52 1 ((vals qs) ++ [(.slice rb x rc)]), rowI z12 zc13 4 1 ((bools fs) ++ [.bool (opB op (finN a s) (finN b t))]), oI z4 25 [(.int .i64 a.vars), (.int .i64 ((a.start.toNat * b.next.length + b.start.toNat : Nat) : Int)), (.slice z9 (n1 + 1) zc10), (.slice z12 (n2 + 1) zc13)], oI z3 25 [(.int .i64 0), (.int .i64 0), (.slice none 0 0), (.slice none 0 0)], oI z2 25 (dC b k), oI z1 25 (dC a j)] (rowI rb rc 3 1 (ints ys)) (itms 3 qs) _ (itms_snoc 3 qs ⟨rb, rc, ys⟩)) ?_
      refine T.region ?_
      refine TO.quiet (q_move rfl) (TO.quiet (q_addN (a := t) (b := 1) rfl rfl (by omega)) (TO.quiet (q_assign rfl) ?_))
      refine TO.nil ?_
      refine ⟨t + 1, by omega, z9, z12, zc10, zc13, n1 + 1, n2 + 1, qs ++ [⟨rb, rc, ys⟩], fs ++ [opB op (finN a s) (finN b t)], rfl, by omega, by omega, by omega, by simp; omega, by simp; omega, ?_, ?_, ⟨rfl, rfl, rfl, rfl, rfl, rfl, rfl, rfl, rfl, rfl, trivial⟩⟩
      · rw [← Nat.add_assoc, take_at (prNext_at hlt30 hlt35)]
        show List.map Rec.xs (qs ++ [_]) = _
        rw [List.map_append, show List.map Rec.xs qs = _ from hqs, ← hyf]; rfl
      · rw [← Nat.add_assoc, take_at (prFin_at hlt30 hlt35), hfs]
    have hge35 : ¬ t < b.next.length := by omega
    refine T.exit ?_
    refine T.region ?_
    refine TO.quiet (q_move rfl) (TO.quiet (q_addN (a := s) (b := 1) rfl rfl (by omega)) (TO.quiet (q_assign rfl) ?_))
    refine TO.nil ?_
    refine ⟨s + 1, by omega, nbm, fbm, ncm, fcm, n1, n2, qs, fs, rfl, by omega, ?_, ?_, ?_, ?_, ?_, ?_, ⟨rfl, rfl, rfl, rfl, rfl, rfl, rfl, rfl, rfl, trivial⟩⟩
    all_goals (have hmul : (s + 1) * b.next.length = s * b.next.length + b.next.length := Nat.succ_mul _ _; have hte : t = b.next.length := by omega)
    · omega
    · omega
    · omega
    · omega
    · rw [hqs, hmul, hte]
    · rw [hfs, hmul, hte]
  have hge30 : ¬ s < a.next.length := by omega
  refine T.exit ?_
  refine T.seq ?_
  have hmul : s * b.next.length = a.next.length * b.next.length := by rw [show s = a.next.length by omega]
  obtain ⟨W, hW⟩ : ∃ W, W = prodD (opB op) a b := ⟨_, rfl⟩
  have e1 : nums qs = W.next := by rw [hW, hqs, List.take_of_length_le (by rw [prNext_len]; omega)]; rfl
  have e2 : fs = W.final := by rw [hW, hfs, List.take_of_length_le (by rw [prFin_len]; omega)]; rfl
  have e3 : W.vars = a.vars := by rw [hW]; rfl
  have e4 : W.start = ((a.start.toNat * b.next.length + b.start.toNat : Nat) : Int) := by rw [hW]; rfl
  obtain rfl : n1 = W.next.length := by rw [← e1, List.length_map]; omega
  obtain rfl : n2 = W.final.length := by rw [← e2]; omega
  subst e2
  obtain ⟨z9, hz9⟩ : ∃ z : DK, z = ⟨nbm, ncm, fbm, fcm, qs⟩ := ⟨_, rfl⟩
  refine T.sub (O' := ([rowI nbm ncm 52 1 (vals qs), rowI fbm fcm 4 1 (bools W.final), oI z4 25 [(.int .i64 a.vars), (.int .i64 ((a.start.toNat * b.next.length + b.start.toNat : Nat) : Int)), (.slice nbm W.next.length ncm), (.slice fbm W.final.length fcm)], oI z3 25 [(.int .i64 0), (.int .i64 0), (.slice none 0 0), (.slice none 0 0)]] ++ itms 3 qs)) (by exact Sub.k (.k (.k (.k (.d (.d .rf)))))) ?_
  refine T.sub (O' := (([rowI nbm ncm 52 1 (vals qs), rowI fbm fcm 4 1 (bools W.final)] ++ itms 3 qs) ++ [oI z4 25 [(.int .i64 a.vars), (.int .i64 ((a.start.toNat * b.next.length + b.start.toNat : Nat) : Int)), (.slice nbm W.next.length ncm), (.slice fbm W.final.length fcm)], oI z3 25 [(.int .i64 0), (.int .i64 0), (.slice none 0 0), (.slice none 0 0)]])) (by exact Sub.swap3 [rowI nbm ncm 52 1 (vals qs), rowI fbm fcm 4 1 (bools W.final)] (itms 3 qs) [oI z4 25 [(.int .i64 a.vars), (.int .i64 ((a.start.toNat * b.next.length + b.start.toNat : Nat) : Int)), (.slice nbm W.next.length ncm), (.slice fbm W.final.length fcm)], oI z3 25 [(.int .i64 0), (.int .i64 0), (.slice none 0 0), (.slice none 0 0)]]) ?_
  refine T.pack (φ := nums qs = W.next) e1 ?_
  refine T.sub (O' := [dI 52 4 3 W z9, oI z4 25 (dC W z9), oI z3 25 [(.int .i64 0), (.int .i64 0), (.slice none 0 0), (.slice none 0 0)]]) (by subst hz9; rw [← e3, ← e4]; exact Sub.rf) ?_
  refine T.region ?_
  refine TO.quiet (q_load_boxAgg 1 Tryd.underlying25 rfl inf25 rfl rfl rfl) ?_
  refine TO.loud rfl (l_store_box (v := (dV W z9)) (vs := (dC W z9)) 2 inf25 rfl rfl rfl rfl rfl rfl (by simp [putL]) ?_)
  refine TO.nil (T.ret (Res.drop ?_))
  refine Res.cell1 (i := 2) Tryd.results49 Tryd.underlying25 rfl inf25 rfl rfl rfl ?_
  subst hW
  exact ⟨[dI 52 4 3 (prodD (opB op) a b) z9], (by exact Sub.k .z), z9, rfl, rfl⟩
end Go.Proofs.YtdaapdamcekkgaaDoor

namespace Go.Proofs.YtdaapdamcekkgaaDoor
open Go.Lx Go.RowKit
set_option linter.unusedVariables false
set_option linter.unusedSimpArgs false
set_option maxHeartbeats 1000000 in
set_option maxRecDepth 20000 in
theorem overInts (base : World) (b : Option Addr) (c c' : Nat) (xs : List Int) (hb : xs.length < 9223372036854775807) :
    CallT Tryd.prog base 72 [.slice b xs.length c'] [rowI b c 3 1 (ints xs)] (fun _ O' => O' = []) := by
  refine CallT.enter Tryd.func72 rfl Tryd.ntmps72 rfl ?_
  refine T.seq (T.region ?_)
  refine TO.quiet (q_assign rfl) ?_
  refine TO.nil (T.block ?_)
  refine T.loop (fun (k : Nat) ρ O => ∃ (ys : List Int), O = [rowI b c 3 1 (ints ys)] ∧ k ≤ xs.length ∧ ys.length = xs.length ∧ Heads [(0, (.slice b xs.length c')), (2, .int .i64 (k : Int))] ρ) (fun k => xs.length - k) 0 ?_ ?_
  · exact ⟨xs, rfl, Nat.zero_le _, rfl, ⟨rfl, rfl, trivial⟩⟩
  rintro k ρ O ⟨ys, rfl, hk, hyl, hH⟩
  obtain ⟨ρ0, rfl⟩ := hH.elim
  clear hH
  refine T.seq (T.seq (T.region ?_))
  refine TO.quiet (q_move rfl) (TO.quiet (q_move rfl) (TO.quiet (q_len Tryd.underlying52 rfl) (TO.quiet (q_lss rfl rfl) ?_)))
  refine TO.nil ?_
  refine T.condP rfl (fun hc => ?_) (fun hc => ?_)
  · have hlt6 : k < xs.length := by omega
    have hlt : k < ys.length := by omega
    refine T.skip (T.seq (T.block (T.region ?_)))
    refine TO.quiet (q_move rfl) (TO.quiet (q_move rfl) (TO.quiet (q_ix (i := k) Tryd.underlying52 inf3 rfl rfl (rowO (List.mem_of_getElem? (i := 0) rfl))) ?_))
    refine TO.loud rfl (l_st (j := k) (v := .int .i64 (-77)) (vs := [(.int .i64 (-77))]) (cs := ints ys) 0 inf3 rfl rfl rfl rfl rfl (by simp) rfl (by first | (simp; omega) | (simp_all; omega)) ?_)
    refine TO.sub (O' := [rowI b c 3 1 (ints (ys.set k (-77)))]) (by rw [show putL (ints ys) k [(.int .i64 (-77))] = ints (ys.set k (-77)) from by simp [putL]]; exact Sub.of (List.Sublist.refl _)) ?_
    refine TO.nil (T.region ?_)
    refine TO.quiet (q_move rfl) (TO.quiet (q_inc rfl rfl (by omega)) (TO.quiet (q_assign rfl) ?_))
    refine TO.nil ?_
    exact ⟨k + 1, by omega, ys.set k (-77), rfl, by omega, by simp [hyl], ⟨rfl, rfl, trivial⟩⟩
  have hge6 : ¬ k < xs.length := by omega
  refine T.exit ?_
  refine Res.drop ?_
  refine Res.zero Tryd.results72 ?_
  exact ⟨[], Sub.of (List.nil_sublist _), rfl⟩
set_option maxHeartbeats 1000000 in
set_option maxRecDepth 20000 in
theorem overBools (base : World) (b : Option Addr) (c c' : Nat) (xs : List Bool) (hb : xs.length < 9223372036854775807) :
    CallT Tryd.prog base 47 [.slice b xs.length c'] [rowI b c 4 1 (bools xs)] (fun _ O' => O' = []) := by
  refine CallT.enter Tryd.func47 rfl Tryd.ntmps47 rfl ?_
  refine T.seq (T.region ?_)
  refine TO.quiet (q_assign rfl) ?_
  refine TO.nil (T.block ?_)
  refine T.loop (fun (k : Nat) ρ O => ∃ (ys : List Bool), O = [rowI b c 4 1 (bools ys)] ∧ k ≤ xs.length ∧ ys.length = xs.length ∧ Heads [(0, (.slice b xs.length c')), (2, .int .i64 (k : Int))] ρ) (fun k => xs.length - k) 0 ?_ ?_
  · exact ⟨xs, rfl, Nat.zero_le _, rfl, ⟨rfl, rfl, trivial⟩⟩
  rintro k ρ O ⟨ys, rfl, hk, hyl, hH⟩
  obtain ⟨ρ0, rfl⟩ := hH.elim
  clear hH
  refine T.seq (T.seq (T.region ?_))
  refine TO.quiet (q_move rfl) (TO.quiet (q_move rfl) (TO.quiet (q_len Tryd.underlying23 rfl) (TO.quiet (q_lss rfl rfl) ?_)))
  refine TO.nil ?_
  refine T.condP rfl (fun hc => ?_) (fun hc => ?_)
  · have hlt6 : k < xs.length := by omega
    have hlt : k < ys.length := by omega
    refine T.skip (T.seq (T.block (T.region ?_)))
    refine TO.quiet (q_move rfl) (TO.quiet (q_move rfl) (TO.quiet (q_move rfl) (TO.quiet (q_move rfl) ?_)))
    refine TO.quiet (q_ix (i := k) Tryd.underlying23 inf4 rfl rfl (rowO (List.mem_of_getElem? (i := 0) rfl))) (TO.quiet (q_ld Tryd.underlying4 rfl rfl (rowO (List.mem_of_getElem? (i := 0) rfl)) bools_get) (TO.quiet (q_not rfl) (TO.quiet (q_ix (i := k) Tryd.underlying23 inf4 rfl rfl (rowO (List.mem_of_getElem? (i := 0) rfl))) ?_)))
    refine TO.loud rfl (l_st (j := k) (v := .bool (!ys[k])) (vs := [(.bool (!ys[k]))]) (cs := bools ys) 0 inf4 rfl rfl rfl rfl rfl (by simp) rfl (by first | (simp; omega) | (simp_all; omega)) ?_)
    refine TO.sub (O' := [rowI b c 4 1 (bools (ys.set k (!ys[k])))]) (by rw [show putL (bools ys) k [(.bool (!ys[k]))] = bools (ys.set k (!ys[k])) from by simp [putL]]; exact Sub.of (List.Sublist.refl _)) ?_
    refine TO.nil (T.region ?_)
    refine TO.quiet (q_move rfl) (TO.quiet (q_inc rfl rfl (by omega)) (TO.quiet (q_assign rfl) ?_))
    refine TO.nil ?_
    exact ⟨k + 1, by omega, ys.set k (!ys[k]), rfl, by omega, by simp [hyl], ⟨rfl, rfl, trivial⟩⟩
  have hge6 : ¬ k < xs.length := by omega
  refine T.exit ?_
  refine Res.drop ?_
  refine Res.zero Tryd.results47 ?_
  exact ⟨[], Sub.of (List.nil_sublist _), rfl⟩
set_option maxHeartbeats 1000000 in
set_option maxRecDepth 20000 in
theorem overRows (base : World) (b : Option Addr) (c c' : Nat) (qs : List Rec) (hb : qs.length < 9223372036854775807) (hbr : ∀ q ∈ qs, q.xs.length < 9223372036854775807) :
    CallT Tryd.prog base 46 [.slice b qs.length c'] (rowI b c 52 1 (vals qs) :: itms 3 qs) (fun _ O' => O' = []) := by
  refine CallT.enter Tryd.func46 rfl Tryd.ntmps46 rfl ?_
  refine T.seq (T.region ?_)
  refine TO.quiet (q_assign rfl) ?_
  refine TO.nil (T.block ?_)
  refine T.loop (fun (k : Nat) ρ O => O = ([rowI b c 52 1 (vals qs)] ++ (itms 3 (qs.drop k))) ∧ k ≤ qs.length ∧ Heads [(0, (.slice b qs.length c')), (2, .int .i64 (k : Int))] ρ) (fun k => qs.length - k) 0 ?_ ?_
  · exact ⟨rfl, Nat.zero_le _, ⟨rfl, rfl, trivial⟩⟩
  rintro k ρ O ⟨rfl, hk, hH⟩
  obtain ⟨ρ0, rfl⟩ := hH.elim
  clear hH
  refine T.seq (T.seq (T.region ?_))
  refine TO.quiet (q_move rfl) (TO.quiet (q_move rfl) (TO.quiet (q_len Tryd.underlying22 rfl) (TO.quiet (q_lss rfl rfl) ?_)))
  refine TO.nil ?_
  refine T.condP rfl (fun hc => ?_) (fun hc => ?_)
  · have hlt6 : k < qs.length := by omega
    have hlt : k < qs.length := by omega
    have hit : itms 3 (qs.drop k) = rowI qs[k].b qs[k].c 3 1 (ints qs[k].xs) :: itms 3 (qs.drop (k + 1)) := by rw [List.drop_eq_getElem_cons hlt]; rfl
    refine T.skip (T.seq (T.block (T.region ?_)))
    refine TO.quiet (q_move rfl) (TO.quiet (q_move rfl) (TO.quiet (q_ix (i := k) Tryd.underlying22 inf52 rfl rfl (rowO (List.mem_of_getElem? (i := 0) rfl))) (TO.quiet (q_ld Tryd.underlying52 rfl rfl (rowO (List.mem_of_getElem? (i := 0) rfl)) (show (vals qs)[k]? = some (.slice qs[k].b qs[k].xs.length qs[k].c) by simp [hlt, Rec.val])) ?_)))
    have hk13 := CallT.under (B := rowI b c 52 1 (vals qs) :: itms 3 (qs.drop (k + 1))) (O := ([rowI b c 52 1 (vals qs)] ++ (itms 3 (qs.drop k)))) (overInts base qs[k].b qs[k].c qs[k].c qs[k].xs (hbr _ (List.getElem_mem hlt))) (by rw [hit]; exact Sub.cnt [] (by intro a; simp only [itms, oI, List.set_cons_zero, List.set_cons_succ, putL, List.cons_append, List.nil_append, List.append_nil, List.append_assoc, List.map_append, List.map_cons, List.map_nil, cnt_append, cnt_cons, cnt_nil] <;> omega))
    refine TO.loud rfl (l_call ent72 hk13 rfl ?_)
    clear hk13
    rintro v O' ⟨A1, rfl, rfl⟩
    refine TO.nil (T.region ?_)
    refine TO.quiet (q_move rfl) (TO.quiet (q_inc rfl rfl (by omega)) (TO.quiet (q_assign rfl) ?_))
    refine TO.nil ?_
    exact ⟨k + 1, by omega, rfl, by omega, ⟨rfl, rfl, trivial⟩⟩
  have hge6 : ¬ k < qs.length := by omega
  refine T.exit ?_
  refine Res.drop ?_
  refine Res.zero Tryd.results46 ?_
  exact ⟨[], Sub.of (List.nil_sublist _), rfl⟩
set_option maxHeartbeats 1000000 in
set_option maxRecDepth 20000 in
theorem overDFA (base : World) (d : DFA) (nb fb : Option Addr) (nc fc n1 f1 : Nat) (qs : List Rec) (hq : nums qs = d.next) (hb : d.next.length < 9223372036854775807) (hbr : ∀ r ∈ d.next, r.length < 9223372036854775807) (hbf : d.final.length < 9223372036854775807) :
    CallT Tryd.prog base 16 [.agg (dfaCells d nb nc fb fc).toArray] ([rowI nb n1 52 1 (vals qs), rowI fb f1 4 1 (bools d.final)] ++ itms 3 qs) (fun _ O' => O' = []) := by
  refine CallT.enter Tryd.func16 rfl Tryd.ntmps16 rfl ?_
  have hql : qs.length = d.next.length := by rw [← hq]; simp
  have hqr : ∀ q ∈ qs, q.xs.length < 9223372036854775807 := fun q h => hbr _ (by rw [← hq]; exact List.mem_map_of_mem h)
  refine T.seq (T.region ?_)
  refine TO.loud rfl (l_box (v := (.agg #[(.int .i64 d.vars), (.int .i64 d.start), (.slice nb d.next.length nc), (.slice fb d.final.length fc)])) (cs := [(.int .i64 d.vars), (.int .i64 d.start), (.slice nb d.next.length nc), (.slice fb d.final.length fc)]) rfl rfl (fun b1 => ?_))
  refine TO.nil (T.seq (T.region ?_))
  refine TO.quiet (q_fieldAddr Tryd.underlying25 rfl inf22 rfl rfl) (TO.quiet (q_load_box 0 Tryd.underlying22 rfl rfl rfl rfl) ?_)
  have hk4 := CallT.under (B := [oI b1 25 [(.int .i64 d.vars), (.int .i64 d.start), (.slice nb d.next.length nc), (.slice fb d.final.length fc)], rowI fb f1 4 1 (bools d.final)]) (O := ([oI b1 25 [(.int .i64 d.vars), (.int .i64 d.start), (.slice nb d.next.length nc), (.slice fb d.final.length fc)], rowI nb n1 52 1 (vals qs), rowI fb f1 4 1 (bools d.final)] ++ (itms 3 qs))) (hql ▸ overRows base nb n1 nc qs (by omega) hqr) (Sub.cnt [] (by intro a; simp only [itms, oI, List.set_cons_zero, List.set_cons_succ, putL, List.cons_append, List.nil_append, List.append_nil, List.append_assoc, List.map_append, List.map_cons, List.map_nil, cnt_append, cnt_cons, cnt_nil] <;> omega))
  refine TO.loud rfl (l_call ent46 hk4 rfl ?_)
  clear hk4
  rintro v O' ⟨A1, rfl, rfl⟩
  refine TO.nil (T.region ?_)
  refine TO.quiet (q_fieldAddr Tryd.underlying25 rfl inf23 rfl rfl) (TO.quiet (q_load_box 0 Tryd.underlying23 rfl rfl rfl rfl) ?_)
  have hk7 := CallT.under (B := [oI b1 25 [(.int .i64 d.vars), (.int .i64 d.start), (.slice nb d.next.length nc), (.slice fb d.final.length fc)]]) (O := [oI b1 25 [(.int .i64 d.vars), (.int .i64 d.start), (.slice nb d.next.length nc), (.slice fb d.final.length fc)], rowI fb f1 4 1 (bools d.final)]) (overBools base fb f1 fc d.final hbf) (Sub.cnt [] (by intro a; simp only [itms, oI, List.set_cons_zero, List.set_cons_succ, putL, List.cons_append, List.nil_append, List.append_nil, List.append_assoc, List.map_append, List.map_cons, List.map_nil, cnt_append, cnt_cons, cnt_nil] <;> omega))
  refine TO.loud rfl (l_call ent47 hk7 rfl ?_)
  clear hk7
  rintro v O' ⟨A1, rfl, rfl⟩
  refine TO.nil (Res.drop ?_)
  refine Res.zero Tryd.results16 ?_
  exact ⟨[], Sub.of (List.nil_sublist _), rfl⟩
end Go.Proofs.YtdaapdamcekkgaaDoor

namespace Go.Proofs.YtdaapdamcekkgaaDoor
open Go.Lx Go.RowKit
set_option linter.unusedVariables false
set_option linter.unusedSimpArgs false
theorem copyK (w : World) (d : DFA) (k : DK) (h : At w d k) (hb : d.next.length * 24 ≤ 70368744177664) (hbr : ∀ r ∈ d.next, r.length * 8 ≤ 70368744177664) (hbf : d.final.length * 1 ≤ 70368744177664) :
    PureT Tryd.prog 12 [dV d k] w fun v N => ∃ k' : DK, v = dV d k' ∧ N = [dI 52 4 3 d k'] := CallT.dk (g := id) (copyDFA w d k.nb k.fb k.nc k.fc (vals k.qs) h hb hbr hbf)
theorem overK (base : World) (d : DFA) (k : DK) (hb : d.next.length < 9223372036854775807) (hbr : ∀ r ∈ d.next, r.length < 9223372036854775807) (hbf : d.final.length < 9223372036854775807) :
    CallT Tryd.prog base 16 [dV d k] [dI 52 4 3 d k] (fun _ O' => O' = []) :=
  CallT.packO (M := []) fun hq => by rw [List.append_nil]; exact overDFA base d k.nb k.fb k.nc k.fc k.nc k.fc k.qs hq hb hbr hbf
set_option maxHeartbeats 1000000 in
set_option maxRecDepth 20000 in
theorem refApBad (w : World) (op : Int) (a b : DFA) (j k : DK) (ha : At w a j) (hb : At w b k) (haa : a.next.length < 9223372036854775807) (haar : ∀ r ∈ a.next, r.length < 9223372036854775807) (haaf : a.final.length < 9223372036854775807) (hbb : b.next.length < 9223372036854775807) (hbbr : ∀ r ∈ b.next, r.length < 9223372036854775807) (hbbf : b.final.length < 9223372036854775807) (he : wrongD a b ≠ 0) :
    PureT Tryd.prog 17 [.int .i64 op, dV a j, dV b k] w fun v N => ∃ k' : DK, v = .tuple #[dV (opV (opB op) a b) k', .int .i64 (wrongD a b : Int)] ∧ N = [dI 52 4 3 (opV (opB op) a b) k'] := by
  refine CallT.enter Tryd.func17 rfl Tryd.ntmps17 rfl ?_
  refine T.seq (T.region ?_)
  refine TO.loud rfl (l_box (v := (dV a j)) (cs := (dC a j)) rfl rfl (fun bx1 => ?_))
  refine TO.loud rfl (l_box (v := (dV b k)) (cs := (dC b k)) rfl rfl (fun bx2 => ?_))
  refine TO.loud rfl (l_alloc inf25 rfl (fun bx3 => ?_))
  refine TO.quiet (q_assign rfl) ?_
  refine TO.nil (T.seq (T.region ?_))
  refine TO.quiet (q_load_boxAgg 2 Tryd.underlying25 rfl inf25 rfl rfl rfl) (TO.quiet (q_load_boxAgg 1 Tryd.underlying25 rfl inf25 rfl rfl rfl) ?_)
  have hk11 := fun (w1 : World) (hI : Inv w [oI bx3 25 [(.int .i64 0), (.int .i64 0), (.slice none 0 0), (.slice none 0 0)], oI bx2 25 (dC b k), oI bx1 25 (dC a j)] w1) => refWrong w1 a b j k (hI.atB ha) (hI.atB hb) haa haar haaf hbb hbbr hbbf
  refine TO.loud rfl (l_call ent48 (CallT.of_pure hk11) rfl ?_)
  clear hk11
  rintro vr O' ⟨N, rfl, rfl, rfl⟩
  refine TO.quiet (q_assign rfl) ?_
  refine TO.nil (T.seq (T.seq (T.region ?_)))
  refine TO.quiet (q_move rfl) (TO.quiet (q_neq rfl rfl) ?_)
  refine TO.nil ?_
  refine T.cond1 (congrArg Value.bool (decide_eq_true (by omega))) ?_
  refine T.seq ?_
  refine T.nilD 52 4 3 ?_
  refine T.region ?_
  refine TO.quiet (q_build plan25 inf25 rfl) (TO.quiet (q_move rfl) ?_)
  refine TO.loud rfl (l_store_box (v := (.agg #[(.int .i64 0), (.int .i64 0), (.slice none 0 0), (.slice none 0 0)])) (vs := [(.int .i64 0), (.int .i64 0), (.slice none 0 0), (.slice none 0 0)]) 1 inf25 rfl rfl rfl rfl rfl rfl (by simp [putL]) ?_)
  refine TO.quiet (q_assign rfl) ?_
  refine TO.nil (T.ret (Res.drop ?_))
  refine Res.cell1b (.int .i64 (wrongD a b : Int)) (i := 1) Tryd.results17 Tryd.underlying25 rfl inf25 rfl rfl rfl rfl ?_
  rw [opV_bad he]
  exact ⟨[dI 52 4 3 noD k00], (by exact Sub.k .z), k00, rfl, rfl⟩
set_option maxHeartbeats 1000000 in
set_option maxRecDepth 20000 in
theorem refApOk (w : World) (op : Int) (a b : DFA) (j k : DK) (ha : At w a j) (hb : At w b k) (haa : a.next.length < 9223372036854775807) (haar : ∀ r ∈ a.next, r.length < 9223372036854775807) (haaf : a.final.length < 9223372036854775807) (hbb : b.next.length < 9223372036854775807) (hbbr : ∀ r ∈ b.next, r.length < 9223372036854775807) (hbbf : b.final.length < 9223372036854775807) (he : wrongD a b = 0) (hn : a.next.length * b.next.length < 100) :
    PureT Tryd.prog 17 [.int .i64 op, dV a j, dV b k] w fun v N => ∃ k' : DK, v = .tuple #[dV (opV (opB op) a b) k', .int .i64 (wrongD a b : Int)] ∧ N = [dI 52 4 3 (opV (opB op) a b) k'] := by
  refine CallT.enter Tryd.func17 rfl Tryd.ntmps17 rfl ?_
  obtain ⟨va, vb, hv⟩ := wrongD_zero.1 he
  have vP := prod_valid (f := opB op) va vb hv (by omega)
  obtain ⟨M, hM⟩ : ∃ M, minD (prodD (opB op) a b) = M := ⟨_, rfl⟩
  refine T.seq (T.region ?_)
  refine TO.loud rfl (l_box (v := (dV a j)) (cs := (dC a j)) rfl rfl (fun bx1 => ?_))
  refine TO.loud rfl (l_box (v := (dV b k)) (cs := (dC b k)) rfl rfl (fun bx2 => ?_))
  refine TO.loud rfl (l_alloc inf25 rfl (fun bx3 => ?_))
  refine TO.quiet (q_assign rfl) ?_
  refine TO.nil (T.seq (T.region ?_))
  refine TO.quiet (q_load_boxAgg 2 Tryd.underlying25 rfl inf25 rfl rfl rfl) (TO.quiet (q_load_boxAgg 1 Tryd.underlying25 rfl inf25 rfl rfl rfl) ?_)
  have hk11 := fun (w1 : World) (hI : Inv w [oI bx3 25 [(.int .i64 0), (.int .i64 0), (.slice none 0 0), (.slice none 0 0)], oI bx2 25 (dC b k), oI bx1 25 (dC a j)] w1) => refWrong w1 a b j k (hI.atB ha) (hI.atB hb) haa haar haaf hbb hbbr hbbf
  refine TO.loud rfl (l_call ent48 (CallT.of_pure hk11) rfl ?_)
  clear hk11
  rintro vr O' ⟨N, rfl, rfl, rfl⟩
  rw [he]
  refine TO.quiet (q_assign rfl) ?_
  refine TO.nil (T.seq (T.seq (T.region ?_)))
  refine TO.quiet (q_move rfl) (TO.quiet (q_neq rfl rfl) ?_)
  refine TO.nil ?_
  refine T.cond0 rfl ?_
  refine T.skip (T.seq (T.region ?_))
  refine TO.quiet (q_move rfl) (TO.quiet (q_load_boxAgg 2 Tryd.underlying25 rfl inf25 rfl rfl rfl) (TO.quiet (q_load_boxAgg 1 Tryd.underlying25 rfl inf25 rfl rfl rfl) ?_))
  have hk19 := fun (w1 : World) (hI : Inv w [oI bx3 25 [(.int .i64 0), (.int .i64 0), (.slice none 0 0), (.slice none 0 0)], oI bx2 25 (dC b k), oI bx1 25 (dC a j)] w1) => refProd w1 op a b j k (hI.atB ha) (hI.atB hb) va vb hv
  refine TO.loud rfl (l_call ent49 (CallT.of_pure hk19) rfl ?_)
  clear hk19
  rintro vr O' ⟨N, rfl, k1, rfl, rfl⟩
  have hk20 := fun (w1 : World) (hI : Inv w [dI 52 4 3 (prodD (opB op) a b) k1, oI bx3 25 [(.int .i64 0), (.int .i64 0), (.slice none 0 0), (.slice none 0 0)], oI bx2 25 (dC b k), oI bx1 25 (dC a j)] w1) => rMinKE w1 (prodD (opB op) a b) k1 (hI.at (k := k1) (List.mem_of_getElem? (i := 0) rfl)) vP (by rw [prod_len]; omega) hM
  refine TO.loud rfl (l_call ent42 (CallT.of_pure hk20) rfl ?_)
  clear hk20
  rintro vr O' ⟨N, rfl, k', rfl, rfl⟩
  refine TO.quiet (q_extract (vs := _) rfl rfl) (TO.quiet (q_extract (vs := _) rfl rfl) ?_)
  refine TO.loud rfl (l_store_box (v := (dV M k')) (vs := (dC M k')) 2 inf25 rfl rfl rfl rfl rfl rfl (by simp [putL]) ?_)
  refine TO.quiet (q_assign rfl) ?_
  refine TO.nil (T.ret (Res.drop ?_))
  refine Res.cell1b (.int .i64 0) (i := 2) Tryd.results17 Tryd.underlying25 rfl inf25 rfl rfl rfl rfl ?_
  rw [opV_ok he, show opD (opB op) a b = M from hM]
  exact ⟨[dI 52 4 3 M k'], (by exact Sub.k .z), k', rfl, rfl⟩
theorem refApC (w : World) (op : Int) (a b : DFA) (j k : DK) (ha : At w a j) (hb : At w b k) (haa : a.next.length < 9223372036854775807) (haar : ∀ r ∈ a.next, r.length < 9223372036854775807) (haaf : a.final.length < 9223372036854775807) (hbb : b.next.length < 9223372036854775807) (hbbr : ∀ r ∈ b.next, r.length < 9223372036854775807) (hbbf : b.final.length < 9223372036854775807) (hn : wrongD a b = 0 → a.next.length * b.next.length < 100) :
    PureT Tryd.prog 17 [.int .i64 op, dV a j, dV b k] w fun v N => ∃ k' : DK, v = .tuple #[dV (opV (opB op) a b) k', .int .i64 (wrongD a b : Int)] ∧ N = [dI 52 4 3 (opV (opB op) a b) k'] := by
  by_cases he : wrongD a b = 0
  · exact refApOk w op a b j k ha hb haa haar haaf hbb hbbr hbbf he (hn he)
  · exact refApBad w op a b j k ha hb haa haar haaf hbb hbbr hbbf he
set_option maxHeartbeats 1000000 in
set_option maxRecDepth 20000 in
theorem refNotBad (w : World) (a : DFA) (j : DK) (ha : At w a j) (haa : a.next.length < 9223372036854775807) (haar : ∀ r ∈ a.next, r.length < 9223372036854775807) (haaf : a.final.length < 9223372036854775807) (he : checkD a ≠ 0) :
    PureT Tryd.prog 13 [dV a j] w fun v N => ∃ k' : DK, v = .tuple #[dV (opV notB a a) k', .int .i64 (checkD a : Int)] ∧ N = [dI 52 4 3 (opV notB a a) k'] := by
  refine CallT.enter Tryd.func13 rfl Tryd.ntmps13 rfl ?_
  refine T.seq (T.region ?_)
  refine TO.loud rfl (l_box (v := (dV a j)) (cs := (dC a j)) rfl rfl (fun bx1 => ?_))
  refine TO.loud rfl (l_alloc inf25 rfl (fun bx2 => ?_))
  refine TO.quiet (q_assign rfl) ?_
  refine TO.nil (T.seq (T.region ?_))
  refine TO.quiet (q_load_boxAgg 1 Tryd.underlying25 rfl inf25 rfl rfl rfl) ?_
  have hk8 := fun (w1 : World) (hI : Inv w [oI bx2 25 [(.int .i64 0), (.int .i64 0), (.slice none 0 0), (.slice none 0 0)], oI bx1 25 (dC a j)] w1) => refCheck w1 a j.nb j.fb j.nc j.fc (vals j.qs) (hI.dfa ha) haa haar haaf
  refine TO.loud rfl (l_call ent37 (CallT.of_pure hk8) rfl ?_)
  clear hk8
  rintro vr O' ⟨N, rfl, rfl, rfl⟩
  refine TO.quiet (q_assign rfl) ?_
  refine TO.nil (T.seq (T.seq (T.region ?_)))
  refine TO.quiet (q_move rfl) (TO.quiet (q_neq rfl rfl) ?_)
  refine TO.nil ?_
  refine T.cond1 (congrArg Value.bool (decide_eq_true (by omega))) ?_
  refine T.seq ?_
  refine T.nilD 52 4 3 ?_
  refine T.region ?_
  refine TO.quiet (q_build plan25 inf25 rfl) (TO.quiet (q_move rfl) ?_)
  refine TO.loud rfl (l_store_box (v := (.agg #[(.int .i64 0), (.int .i64 0), (.slice none 0 0), (.slice none 0 0)])) (vs := [(.int .i64 0), (.int .i64 0), (.slice none 0 0), (.slice none 0 0)]) 1 inf25 rfl rfl rfl rfl rfl rfl (by simp [putL]) ?_)
  refine TO.quiet (q_assign rfl) ?_
  refine TO.nil (T.ret (Res.drop ?_))
  refine Res.cell1b (.int .i64 (checkD a : Int)) (i := 1) Tryd.results13 Tryd.underlying25 rfl inf25 rfl rfl rfl rfl ?_
  rw [opV_bad (by rw [wrongD_self]; exact he)]
  exact ⟨[dI 52 4 3 noD k00], (by exact Sub.k .z), k00, rfl, rfl⟩
set_option maxHeartbeats 1000000 in
set_option maxRecDepth 20000 in
theorem refNotOk (w : World) (a : DFA) (j : DK) (ha : At w a j) (haa : a.next.length < 9223372036854775807) (haar : ∀ r ∈ a.next, r.length < 9223372036854775807) (haaf : a.final.length < 9223372036854775807) (va : Valid a) (hn : a.next.length ≤ 64) :
    PureT Tryd.prog 13 [dV a j] w fun v N => ∃ k' : DK, v = .tuple #[dV (opV notB a a) k', .int .i64 (checkD a : Int)] ∧ N = [dI 52 4 3 (opV notB a a) k'] := by
  refine CallT.enter Tryd.func13 rfl Tryd.ntmps13 rfl ?_
  have he := checkD_zero.2 va
  have hsq : a.next.length * a.next.length ≤ 64 * 64 := Nat.mul_le_mul hn hn
  have hfin := va.fin
  refine T.seq (T.region ?_)
  refine TO.loud rfl (l_box (v := (dV a j)) (cs := (dC a j)) rfl rfl (fun z1 => ?_))
  refine TO.loud rfl (l_alloc inf25 rfl (fun z2 => ?_))
  refine TO.quiet (q_assign rfl) ?_
  refine TO.nil (T.seq (T.region ?_))
  refine TO.quiet (q_load_boxAgg 1 Tryd.underlying25 rfl inf25 rfl rfl rfl) ?_
  have hk8 := fun (w1 : World) (hI : Inv w [oI z2 25 [(.int .i64 0), (.int .i64 0), (.slice none 0 0), (.slice none 0 0)], oI z1 25 (dC a j)] w1) => refCheck w1 a j.nb j.fb j.nc j.fc (vals j.qs) (hI.dfa ha) haa haar haaf
  refine TO.loud rfl (l_call ent37 (CallT.of_pure hk8) rfl ?_)
  clear hk8
  rintro vr O' ⟨N, rfl, rfl, rfl⟩
  rw [he]
  refine TO.quiet (q_assign rfl) ?_
  refine TO.nil (T.seq (T.seq (T.region ?_)))
  refine TO.quiet (q_move rfl) (TO.quiet (q_neq rfl rfl) ?_)
  refine TO.nil ?_
  refine T.cond0 rfl ?_
  refine T.skip (T.seq (T.region ?_))
  refine TO.quiet (q_load_boxAgg 1 Tryd.underlying25 rfl inf25 rfl rfl rfl) ?_
  have hk14 := fun (w1 : World) (hI : Inv w [oI z2 25 [(.int .i64 0), (.int .i64 0), (.slice none 0 0), (.slice none 0 0)], oI z1 25 (dC a j)] w1) => copyK w1 a j (hI.atB ha) (by have := va.n4; omega) (fun r hr => by have := va.len r hr; have := va.width; omega) (by have := va.fin; have := va.n4; omega)
  refine TO.loud rfl (l_call ent12 (CallT.of_pure hk14) rfl ?_)
  clear hk14
  rintro vr O' ⟨N, rfl, k1, rfl, rfl⟩
  refine TO.loud rfl (l_alloc inf25 rfl (fun z3 => ?_))
  refine TO.loud rfl (l_store_box (v := (dV a k1)) (vs := (dC a k1)) 0 inf25 rfl rfl rfl rfl rfl rfl (by simp [putL]) ?_)
  refine TO.nil (T.seq (T.seq (T.region ?_)))
  refine TO.quiet (q_assign rfl) ?_
  refine TO.nil (T.block ?_)
  refine T.sub (O' := [dI 52 4 3 a k1, oI z3 25 (dC a k1), oI z2 25 [(.int .i64 0), (.int .i64 0), (.slice none 0 0), (.slice none 0 0)], oI z1 25 (dC a j)]) (by exact Sub.pull [oI z3 25 (dC a k1)] _ (.k (.k (.k .z)))) ?_
  refine T.unpack (fun hqs => ?_)
  refine T.sub (O' := ([rowI k1.nb k1.nc 52 1 (vals k1.qs), rowI k1.fb k1.fc 4 1 (bools a.final), oI z3 25 (dC a k1), oI z2 25 [(.int .i64 0), (.int .i64 0), (.slice none 0 0), (.slice none 0 0)], oI z1 25 (dC a j)] ++ itms 3 k1.qs)) (by exact Sub.swap3 [rowI k1.nb k1.nc 52 1 (vals k1.qs), rowI k1.fb k1.fc 4 1 (bools a.final)] [oI z3 25 (dC a k1), oI z2 25 [(.int .i64 0), (.int .i64 0), (.slice none 0 0), (.slice none 0 0)], oI z1 25 (dC a j)] (itms 3 k1.qs)) ?_
  refine T.loop (fun (s : Nat) ρ O => ∃ (fs : List Bool), O = ([rowI k1.nb k1.nc 52 1 (vals k1.qs), rowI k1.fb k1.fc 4 1 (bools fs), oI z3 25 (dC a k1), oI z2 25 [(.int .i64 0), (.int .i64 0), (.slice none 0 0), (.slice none 0 0)], oI z1 25 (dC a j)] ++ (itms 3 k1.qs)) ∧ s ≤ a.final.length ∧ fs.length = a.final.length ∧ (∀ i, fs[i]? = if i < s then a.final[i]?.map (!·) else a.final[i]?) ∧ Heads [(0, (dV a j)), (1, (.pointer (some ⟨z1, 0, none⟩))), (2, (.pointer (some ⟨z2, 0, none⟩))), (3, .int .i64 0), (4, .int .i64 ((0 : Nat) : Int)), (5, (.pointer (some ⟨z3, 0, none⟩))), (6, .int .i64 ((s : Nat) : Int))] ρ) (fun s => a.final.length - s) 0 ?_ ?_
  · exact ⟨a.final, rfl, Nat.zero_le _, rfl, fun i => by simp, ⟨rfl, rfl, rfl, rfl, rfl, rfl, rfl, trivial⟩⟩
  rintro s ρ O ⟨fs, rfl, hs, hfl, hfs, hH⟩
  obtain ⟨ρ0, rfl⟩ := hH.elim
  clear hH
  refine T.seq (T.seq (T.region ?_))
  refine TO.quiet (q_move rfl) (TO.quiet (q_fieldAddr Tryd.underlying25 rfl inf23 rfl rfl) (TO.quiet (q_load_box 2 Tryd.underlying23 rfl rfl rfl rfl) (TO.quiet (q_len Tryd.underlying23 rfl) ?_)))
  refine TO.quiet (q_lss rfl rfl) ?_
  refine TO.nil ?_
  refine T.condP rfl (fun hc => ?_) (fun hc => ?_)
  · have hlt19 : s < a.final.length := by omega
    refine T.skip (T.seq (T.block ?_))
    refine T.draws [rowI k1.nb k1.nc 52 1 (vals k1.qs), rowI k1.fb k1.fc 4 1 (bools fs), oI z3 25 (dC a k1), oI z2 25 [(.int .i64 0), (.int .i64 0), (.slice none 0 0), (.slice none 0 0)], oI z1 25 (dC a j)] [(0, 0), (1, 0), (2, 0), (3, 0), (4, 0), (5, 0), (6, 0), (7, 0), (8, 0), (9, 0), (10, 2)] mixed (by kernel_rfl) (by exact Sub.k (.k (.k (.k (.k .z))))) (fun _ _ _ h => h) ?_
    refine DO.quiet rfl (q_fieldAddr Tryd.underlying25 rfl inf23 rfl rfl) (DO.quiet rfl (q_load_box 2 Tryd.underlying23 rfl rfl rfl rfl) (DO.quiet rfl (q_move rfl) (DO.quiet rfl (q_fieldAddr Tryd.underlying25 rfl inf23 rfl rfl) ?_)))
    refine DO.quiet rfl (q_load_box 2 Tryd.underlying23 rfl rfl rfl rfl) (DO.quiet rfl (q_move rfl) (DO.quiet rfl (q_ix (i := s) Tryd.underlying23 inf4 rfl rfl (rowO (List.mem_of_getElem? (i := 1) rfl)) hlt19 (by rw [List.length_map]; omega)) (DO.quiet rfl (q_ld Tryd.underlying4 rfl rfl (rowO (List.mem_of_getElem? (i := 1) rfl)) (show (bools fs)[s]? = some (.bool a.final[s]) by rw [List.getElem?_map, hfs s, if_neg (by omega), List.getElem?_eq_getElem hlt19]; rfl)) ?_)))
    refine DO.quiet rfl (q_not rfl) (DO.quiet rfl (q_ix (i := s) Tryd.underlying23 inf4 rfl rfl (rowO (List.mem_of_getElem? (i := 1) rfl)) hlt19 (by rw [List.length_map]; omega)) ?_)
    refine DO.last rfl rfl (l_st (j := s) (v := .bool (!a.final[s])) (vs := [(.bool (!a.final[s]))]) (cs := bools fs) 1 inf4 rfl rfl rfl rfl rfl (by simp) rfl (by first | (simp; omega) | (simp_all; omega)) ?_)
    refine DO.sub (O' := ([rowI k1.nb k1.nc 52 1 (vals k1.qs), rowI k1.fb k1.fc 4 1 (bools (fs.set s (!a.final[s]))), oI z3 25 (dC a k1), oI z2 25 [(.int .i64 0), (.int .i64 0), (.slice none 0 0), (.slice none 0 0)], oI z1 25 (dC a j)] ++ (itms 3 k1.qs))) (by rw [show putL (bools fs) s [(.bool (!a.final[s]))] = bools (fs.set s (!a.final[s])) from by simp [putL]]; exact Sub.of (List.Sublist.refl _)) ?_
    refine DO.done ?_
    refine T.region ?_
    refine TO.quiet (q_move rfl) (TO.quiet (q_addN (a := s) (b := 1) rfl rfl (by omega)) (TO.quiet (q_assign rfl) ?_))
    refine TO.nil ?_
    refine ⟨s + 1, by omega, fs.set s (!a.final[s]), rfl, by omega, by simp [hfl], fun i => ?_, ⟨rfl, rfl, rfl, rfl, rfl, rfl, rfl, trivial⟩⟩
    by_cases e : i = s
    · subst e; rw [List.getElem?_set_self (by omega), if_pos (by omega), List.getElem?_eq_getElem hlt19]; rfl
    · rw [List.getElem?_set_ne (fun h => e h.symm), hfs i]
      by_cases e2 : i < s
      · rw [if_pos e2, if_pos (by omega)]
      · rw [if_neg e2, if_neg (by omega)]
  have hge19 : ¬ s < a.final.length := by omega
  refine T.exit ?_
  refine T.seq ?_
  have hfe : fs = a.final.map (!·) := by
    apply List.ext_getElem?
    intro i
    rw [hfs i, List.getElem?_map]
    by_cases e2 : i < s
    · rw [if_pos e2]
    · rw [if_neg e2, List.getElem?_eq_none (by omega)]; rfl
  obtain ⟨W, hW⟩ : ∃ W, W = flipD a := ⟨_, rfl⟩
  have e2 : fs = W.final := by rw [hW, hfe]; rfl
  have hqW : nums k1.qs = W.next := by rw [hW, hqs]; rfl
  subst e2
  have vW : Valid W := hW ▸ flip_valid va
  obtain ⟨M, hM⟩ : ∃ M, minD W = M := ⟨_, rfl⟩
  have hM2 : opD notB a a = M := by rw [← hM, hW]; exact (notD_flip va (by omega)).symm
  have hfl2 : W.final.length = a.final.length := hfl
  refine T.sub (O' := (([rowI k1.nb k1.nc 52 1 (vals k1.qs), rowI k1.fb k1.fc 4 1 (bools W.final)] ++ itms 3 k1.qs) ++ [oI z3 25 (dC a k1), oI z2 25 [(.int .i64 0), (.int .i64 0), (.slice none 0 0), (.slice none 0 0)], oI z1 25 (dC a j)])) (by exact Sub.swap3 [rowI k1.nb k1.nc 52 1 (vals k1.qs), rowI k1.fb k1.fc 4 1 (bools W.final)] (itms 3 k1.qs) [oI z3 25 (dC a k1), oI z2 25 [(.int .i64 0), (.int .i64 0), (.slice none 0 0), (.slice none 0 0)], oI z1 25 (dC a j)]) ?_
  refine T.pack (φ := nums k1.qs = W.next) hqW ?_
  refine T.sub (O' := [dI 52 4 3 W k1, oI z3 25 (dC W k1), oI z2 25 [(.int .i64 0), (.int .i64 0), (.slice none 0 0), (.slice none 0 0)], oI z1 25 (dC a j)]) (by rw [show dC W k1 = dC a k1 by subst hW; simp [flipD]]; exact Sub.rf) ?_
  refine T.region ?_
  refine TO.quiet (q_load_boxAgg 1 Tryd.underlying25 rfl inf25 rfl rfl rfl) ?_
  have hk33 := fun (w1 : World) (hI : Inv w [dI 52 4 3 W k1, oI z3 25 (dC W k1), oI z2 25 [(.int .i64 0), (.int .i64 0), (.slice none 0 0), (.slice none 0 0)], oI z1 25 (dC a j)] w1) => rMinKE w1 W k1 (hI.at (k := k1) (List.mem_of_getElem? (i := 0) rfl)) vW (by rw [hW]; show a.next.length < 100; omega) hM
  refine TO.loud rfl (l_call ent42 (CallT.of_pure hk33) rfl ?_)
  clear hk33
  rintro vr O' ⟨N, rfl, k', rfl, rfl⟩
  refine TO.quiet (q_extract (vs := _) rfl rfl) (TO.quiet (q_extract (vs := _) rfl rfl) ?_)
  refine TO.loud rfl (l_store_box (v := (dV M k')) (vs := (dC M k')) 3 inf25 rfl rfl rfl rfl rfl rfl (by simp [putL]) ?_)
  refine TO.quiet (q_assign rfl) ?_
  refine TO.nil (T.ret (Res.drop ?_))
  refine Res.cell1b (.int .i64 0) (i := 3) Tryd.results13 Tryd.underlying25 rfl inf25 rfl rfl rfl rfl ?_
  rw [opV_ok (by rw [wrongD_self]; exact he), hM2]
  exact ⟨[dI 52 4 3 M k'], (by exact Sub.k .z), k', rfl, rfl⟩
theorem refNotC (w : World) (a : DFA) (j : DK) (ha : At w a j) (haa : a.next.length < 9223372036854775807) (haar : ∀ r ∈ a.next, r.length < 9223372036854775807) (haaf : a.final.length < 9223372036854775807) (hn : Valid a → a.next.length ≤ 64) :
    PureT Tryd.prog 13 [dV a j] w fun v N => ∃ k' : DK, v = .tuple #[dV (opV notB a a) k', .int .i64 (checkD a : Int)] ∧ N = [dI 52 4 3 (opV notB a a) k'] := by
  by_cases he : checkD a = 0
  · exact refNotOk w a j ha haa haar haaf (checkD_zero.1 he) (hn (checkD_zero.1 he))
  · exact refNotBad w a j ha haa haar haaf he
set_option maxHeartbeats 1000000 in
set_option maxRecDepth 20000 in
theorem everyC (w : World) (n : Int) (h0 : 0 ≤ n) (h6 : n ≤ 6) : PureT Tryd.prog 65 [.int .i64 n] w fun v N => ∃ k' : DK, v = dV (stayD n true) k' ∧ N = [dI 52 4 3 (stayD n true) k'] := by
  refine CallT.enter Tryd.func65 rfl Tryd.ntmps65 rfl ?_
  obtain ⟨W, hW⟩ : ∃ W, 2 ^ n.toNat = W := ⟨_, rfl⟩
  have hW6 : W ≤ 64 := by rw [← hW]; exact Nat.le_trans (Nat.pow_le_pow_right (by omega) (show n.toNat ≤ 6 by omega)) (by decide)
  refine T.seq (T.region ?_)
  refine TO.loud rfl (l_alloc inf25 rfl (fun z1 => ?_))
  refine TO.nil (T.seq (T.region ?_))
  refine TO.quiet (q_move rfl) (TO.quiet (q_move rfl) ?_)
  have hk5 := fun (w1 : World) (hI : Inv w [oI z1 25 [(.int .i64 0), (.int .i64 0), (.slice none 0 0), (.slice none 0 0)]] w1) => lettersF w1 n h0 h6
  refine TO.loud rfl (l_call ent62 (CallT.of_pure hk5) rfl ?_)
  clear hk5
  rintro vr O' ⟨N, rfl, rfl, rfl⟩
  rw [hW]
  refine TO.loud rfl (l_makeSlice (m := W) Tryd.underlying52 inf3 rfl rfl (by omega) (by omega) (fun z2 => ?_))
  refine TO.loud rfl (l_build1 (v := (.slice (some ⟨z2, 0, none⟩) W W)) Tryd.underlying22 inf52 rfl rfl rfl (fun z3 => ?_))
  refine TO.loud rfl (l_build1 (v := .bool true) Tryd.underlying23 inf4 rfl rfl rfl (fun z4 => ?_))
  refine TO.quiet (q_build (cs := [.int .i64 n, (.int .i64 0), (.slice (some ⟨z3, 0, none⟩) 1 1), (.slice (some ⟨z4, 0, none⟩) 1 1)]) plan25 inf25 (by kernel_rfl)) ?_
  refine TO.loud rfl (l_store_box (v := (.agg #[.int .i64 n, (.int .i64 0), (.slice (some ⟨z3, 0, none⟩) 1 1), (.slice (some ⟨z4, 0, none⟩) 1 1)])) (vs := [.int .i64 n, (.int .i64 0), (.slice (some ⟨z3, 0, none⟩) 1 1), (.slice (some ⟨z4, 0, none⟩) 1 1)]) 3 inf25 rfl rfl rfl rfl rfl rfl (by simp [putL]) ?_)
  refine TO.nil ?_
  refine T.sub (O' := [rowI (some ⟨z3, 0, none⟩) 1 52 1 [(.slice (some ⟨z2, 0, none⟩) W W)], rowI (some ⟨z4, 0, none⟩) 1 4 1 [.bool true], rowI (some ⟨z2, 0, none⟩) W 3 1 (List.replicate W (.int .i64 0)), oI z1 25 [.int .i64 n, (.int .i64 0), (.slice (some ⟨z3, 0, none⟩) 1 1), (.slice (some ⟨z4, 0, none⟩) 1 1)]]) (by exact Sub.pull [rowI (some ⟨z4, 0, none⟩) 1 4 1 [.bool true]] _ (.k (.k (.k .z)))) ?_
  refine T.sub (O' := (([rowI (some ⟨z3, 0, none⟩) 1 52 1 (vals [⟨some ⟨z2, 0, none⟩, W, List.replicate W 0⟩]), rowI (some ⟨z4, 0, none⟩) 1 4 1 (bools [true])] ++ itms 3 [⟨some ⟨z2, 0, none⟩, W, List.replicate W 0⟩]) ++ [oI z1 25 [.int .i64 n, (.int .i64 0), (.slice (some ⟨z3, 0, none⟩) 1 1), (.slice (some ⟨z4, 0, none⟩) 1 1)]])) (by rw [show vals [(⟨some ⟨z2, 0, none⟩, W, List.replicate W 0⟩ : Rec)] = [(.slice (some ⟨z2, 0, none⟩) W W)] by simp [Rec.val], show itms 3 [(⟨some ⟨z2, 0, none⟩, W, List.replicate W 0⟩ : Rec)] = [rowI (some ⟨z2, 0, none⟩) W 3 1 (ints (List.replicate W 0))] from rfl, show ints (List.replicate W 0) = List.replicate W (.int .i64 0) by simp]; exact Sub.rf) ?_
  refine T.pack (φ := nums [(⟨some ⟨z2, 0, none⟩, W, List.replicate W 0⟩ : Rec)] = (stayD n true).next) (by rw [← hW]; rfl) ?_
  obtain ⟨d0, hd0⟩ : ∃ d, d = stayD n true := ⟨_, rfl⟩
  obtain ⟨k0, hk0⟩ : ∃ k : DK, k = ⟨some ⟨z3, 0, none⟩, 1, some ⟨z4, 0, none⟩, 1, [⟨some ⟨z2, 0, none⟩, W, List.replicate W 0⟩]⟩ := ⟨_, rfl⟩
  refine T.sub (O' := [dI 52 4 3 d0 k0, oI z1 25 (dC d0 k0)]) (by subst hk0; subst hd0; exact Sub.rf) ?_
  refine T.ret (Res.drop ?_)
  refine Res.cell1 (i := 1) Tryd.results65 Tryd.underlying25 rfl inf25 rfl rfl rfl ?_
  subst hd0
  exact ⟨[dI 52 4 3 (stayD n true) k0], (by exact Sub.k .z), k0, rfl, rfl⟩
set_option maxHeartbeats 1000000 in
set_option maxRecDepth 20000 in
theorem refInBad (w : World) (a b : DFA) (j k : DK) (ha : At w a j) (hb : At w b k) (haa : a.next.length < 9223372036854775807) (haar : ∀ r ∈ a.next, r.length < 9223372036854775807) (haaf : a.final.length < 9223372036854775807) (hbb : b.next.length < 9223372036854775807) (hbbr : ∀ r ∈ b.next, r.length < 9223372036854775807) (hbbf : b.final.length < 9223372036854775807) (he : wrongD a b ≠ 0) :
    PureT Tryd.prog 30 [dV a j, dV b k] w fun v N => v = .tuple #[.slice none 0 0, .bool false, .int .i64 (wrongD a b : Int)] ∧ N = [] := by
  refine CallT.enter Tryd.func30 rfl Tryd.ntmps30 rfl ?_
  refine T.seq (T.region ?_)
  refine TO.loud rfl (l_box (v := (dV a j)) (cs := (dC a j)) rfl rfl (fun bx1 => ?_))
  refine TO.loud rfl (l_box (v := (dV b k)) (cs := (dC b k)) rfl rfl (fun bx2 => ?_))
  refine TO.quiet (q_assign rfl) (TO.quiet (q_assign rfl) (TO.quiet (q_assign rfl) ?_))
  refine TO.nil (T.seq (T.region ?_))
  refine TO.quiet (q_load_boxAgg 1 Tryd.underlying25 rfl inf25 rfl rfl rfl) (TO.quiet (q_load_boxAgg 0 Tryd.underlying25 rfl inf25 rfl rfl rfl) ?_)
  have hk17 := fun (w1 : World) (hI : Inv w [oI bx2 25 (dC b k), oI bx1 25 (dC a j)] w1) => refWrong w1 a b j k (hI.atB ha) (hI.atB hb) haa haar haaf hbb hbbr hbbf
  refine TO.loud rfl (l_call ent48 (CallT.of_pure hk17) rfl ?_)
  clear hk17
  rintro vr O' ⟨N, rfl, rfl, rfl⟩
  refine TO.quiet (q_assign rfl) ?_
  refine TO.nil (T.seq (T.seq (T.region ?_)))
  refine TO.quiet (q_move rfl) (TO.quiet (q_neq rfl rfl) ?_)
  refine TO.nil ?_
  refine T.cond1 (congrArg Value.bool (decide_eq_true (by omega))) ?_
  refine T.seq (T.region ?_)
  refine TO.quiet (q_move rfl) (TO.quiet (q_assign rfl) (TO.quiet (q_assign rfl) (TO.quiet (q_assign rfl) ?_)))
  refine TO.nil (T.ret (Res.drop ?_))
  refine Res.three (.slice none 0 0) (.bool false) (.int .i64 (wrongD a b : Int)) Tryd.results30 rfl rfl rfl ?_
  exact ⟨[], Sub.z, rfl, rfl⟩
set_option maxHeartbeats 1000000 in
set_option maxRecDepth 20000 in
theorem refInOk (w : World) (a b : DFA) (j k : DK) (ha : At w a j) (hb : At w b k) (haa : a.next.length < 9223372036854775807) (haar : ∀ r ∈ a.next, r.length < 9223372036854775807) (haaf : a.final.length < 9223372036854775807) (hbb : b.next.length < 9223372036854775807) (hbbr : ∀ r ∈ b.next, r.length < 9223372036854775807) (hbbf : b.final.length < 9223372036854775807) (he : wrongD a b = 0) (hn : a.next.length * b.next.length ≤ 64) :
    PureT Tryd.prog 30 [dV a j, dV b k] w fun v N => ∃ res wb wc, InclA a b res ∧ v = .tuple #[.slice wb (res.getD []).length wc, .bool (!res.isSome), .int .i64 0] ∧ N = [rowI wb wc 5 1 (byts (res.getD []))] := by
  refine CallT.enter Tryd.func30 rfl Tryd.ntmps30 rfl ?_
  obtain ⟨va, vb, hv⟩ := wrongD_zero.1 he
  have vP := prod_valid (f := minusB) va vb hv (by omega)
  have hpl := prod_len minusB a b
  obtain ⟨P9, hP⟩ : ∃ P, prodD minusB a b = P := ⟨_, rfl⟩
  have hPv : P9.vars = a.vars := by rw [← hP]; rfl
  rw [hP] at vP hpl
  obtain ⟨L, hL⟩ : ∃ L, 2 ^ a.vars.toNat = L := ⟨_, rfl⟩
  have hLM : 2 ^ P9.vars.toNat = L := by rw [hPv]; exact hL
  have hw : L ≤ 64 := by rw [← hL]; exact va.width
  obtain ⟨m, hm⟩ : ∃ m, P9.next.length = m := ⟨_, rfl⟩
  have vS := sinkD_valid vP (by omega)
  have hmf := vP.fin
  refine T.seq (T.region ?_)
  refine TO.loud rfl (l_box (v := (dV a j)) (cs := (dC a j)) rfl rfl (fun z1 => ?_))
  refine TO.loud rfl (l_box (v := (dV b k)) (cs := (dC b k)) rfl rfl (fun z2 => ?_))
  refine TO.quiet (q_assign rfl) (TO.quiet (q_assign rfl) (TO.quiet (q_assign rfl) ?_))
  refine TO.nil (T.seq (T.region ?_))
  refine TO.quiet (q_load_boxAgg 1 Tryd.underlying25 rfl inf25 rfl rfl rfl) (TO.quiet (q_load_boxAgg 0 Tryd.underlying25 rfl inf25 rfl rfl rfl) ?_)
  have hk17 := fun (w1 : World) (hI : Inv w [oI z2 25 (dC b k), oI z1 25 (dC a j)] w1) => refWrong w1 a b j k (hI.atB ha) (hI.atB hb) haa haar haaf hbb hbbr hbbf
  refine TO.loud rfl (l_call ent48 (CallT.of_pure hk17) rfl ?_)
  clear hk17
  rintro vr O' ⟨N, rfl, rfl, rfl⟩
  rw [he]
  refine TO.quiet (q_assign rfl) ?_
  refine TO.nil (T.seq (T.seq (T.region ?_)))
  refine TO.quiet (q_move rfl) (TO.quiet (q_neq rfl rfl) ?_)
  refine TO.nil ?_
  refine T.cond0 rfl ?_
  refine T.skip (T.seq (T.region ?_))
  refine TO.quiet (q_load_boxAgg 1 Tryd.underlying25 rfl inf25 rfl rfl rfl) (TO.quiet (q_load_boxAgg 0 Tryd.underlying25 rfl inf25 rfl rfl rfl) ?_)
  have hk23 := fun (w1 : World) (hI : Inv w [oI z2 25 (dC b k), oI z1 25 (dC a j)] w1) => (show PureT _ _ _ _ _ from by have h9 := refProd w1 3 a b j k (hI.atB ha) (hI.atB hb) va vb hv; rw [show opB 3 = minusB from rfl, hP] at h9; exact h9)
  refine TO.loud rfl (l_call ent49 (CallT.of_pure hk23) rfl ?_)
  clear hk23
  rintro vr O' ⟨N, rfl, k', rfl, rfl⟩
  refine TO.loud rfl (l_alloc inf25 rfl (fun z3 => ?_))
  refine TO.loud rfl (l_store_box (v := (dV P9 k')) (vs := (dC P9 k')) 0 inf25 rfl rfl rfl rfl rfl rfl (by simp [putL]) ?_)
  refine TO.nil (T.seq ?_)
  refine T.sub (O' := [dI 52 4 3 P9 k', oI z3 25 (dC P9 k'), oI z2 25 (dC b k), oI z1 25 (dC a j)]) (by exact Sub.pull [oI z3 25 (dC P9 k')] _ (.k (.k (.k .z)))) ?_
  refine T.unpack (fun hqs => ?_)
  refine T.sub (O' := ([rowI k'.nb k'.nc 52 1 (vals k'.qs), rowI k'.fb k'.fc 4 1 (bools P9.final), oI z3 25 (dC P9 k'), oI z2 25 (dC b k), oI z1 25 (dC a j)] ++ itms 3 k'.qs)) (by exact Sub.swap3 [rowI k'.nb k'.nc 52 1 (vals k'.qs), rowI k'.fb k'.fc 4 1 (bools P9.final)] [oI z3 25 (dC P9 k'), oI z2 25 (dC b k), oI z1 25 (dC a j)] (itms 3 k'.qs)) ?_
  refine T.region ?_
  refine TO.quiet (q_fieldAddr Tryd.underlying25 rfl inf22 rfl rfl) (TO.quiet (q_load_box 2 Tryd.underlying22 rfl rfl rfl rfl) (TO.quiet (QT.cast (q_len Tryd.underlying22 rfl) (v' := .int .i64 ((m : Nat) : Int)) (by rw [hm])) (TO.quiet (q_assign rfl) ?_)))
  refine TO.nil (T.seq (T.region ?_))
  refine TO.quiet (q_assign rfl) ?_
  refine TO.nil (T.seq (T.seq (T.region ?_)))
  refine TO.quiet (q_assign rfl) ?_
  refine TO.nil (T.block ?_)
  refine T.nilRow 3 1 ?_
  refine T.loop (fun (x : Nat) ρ O => ∃ (rb : Option Addr) (rc : Nat) (ys : List Int), O = ([rowI rb rc 3 1 (ints ys), rowI k'.nb k'.nc 52 1 (vals k'.qs), rowI k'.fb k'.fc 4 1 (bools P9.final), oI z3 25 (dC P9 k'), oI z2 25 (dC b k), oI z1 25 (dC a j)] ++ (itms 3 k'.qs)) ∧ x ≤ L ∧ ys.length = x ∧ (∀ y, y < x → ys[y]? = some (m : Int)) ∧ Heads [(0, (dV a j)), (1, (dV b k)), (2, (.pointer (some ⟨z1, 0, none⟩))), (3, (.pointer (some ⟨z2, 0, none⟩))), (4, (.slice none 0 0)), (5, .bool false), (6, .int .i64 0), (7, .int .i64 ((0 : Nat) : Int)), (8, (.pointer (some ⟨z3, 0, none⟩))), (9, .int .i64 ((m : Nat) : Int)), (10, (.slice rb x rc)), (11, .int .i64 ((x : Nat) : Int))] ρ) (fun x => L - x) 0 ?_ ?_
  · exact ⟨none, 0, [], rfl, Nat.zero_le _, rfl, fun y hy9 => absurd hy9 (by omega), ⟨rfl, rfl, rfl, rfl, rfl, rfl, rfl, rfl, rfl, rfl, rfl, rfl, trivial⟩⟩
  rintro x ρ O ⟨rb, rc, ys, rfl, hx, hyl, hys, hH⟩
  obtain ⟨ρ0, rfl⟩ := hH.elim
  clear hH
  refine T.seq (T.seq (T.region ?_))
  refine TO.quiet (q_move rfl) (TO.quiet (q_fieldAddr Tryd.underlying25 rfl inf3 rfl rfl) (TO.quiet (q_load_box 5 Tryd.underlying3 rfl rfl rfl rfl) ?_))
  have hk30 := fun (w1 : World) (hI : Inv w ([rowI rb rc 3 1 (ints ys), rowI k'.nb k'.nc 52 1 (vals k'.qs), rowI k'.fb k'.fc 4 1 (bools P9.final), oI z3 25 (dC P9 k'), oI z2 25 (dC b k), oI z1 25 (dC a j)] ++ (itms 3 k'.qs)) w1) => lettersF w1 a.vars va.v0 va.v6
  refine TO.loud rfl (l_call ent62 (CallT.of_pure hk30) rfl ?_)
  clear hk30
  rintro vr O' ⟨N, rfl, rfl, rfl⟩
  rw [hL]
  refine TO.quiet (q_lss rfl rfl) ?_
  refine TO.nil ?_
  refine T.condP rfl (fun hc => ?_) (fun hc => ?_)
  · have hlt31 : x < L := by omega
    refine T.skip (T.seq (T.block (T.region ?_)))
    refine TO.quiet (q_move rfl) (TO.quiet (q_move rfl) ?_)
    refine TO.loud rfl (l_build1 (v := .int .i64 ((m : Nat) : Int)) Tryd.underlying52 inf3 rfl rfl rfl (fun z4 => ?_))
    refine TO.loud rfl (l_append 1 Tryd.underlying52 Tryd.underlying52 inf3 rfl rfl rfl rfl (by simp; omega) (by decide) (Src.row (j := 0) rfl (by simp)) (by simp [oneB]) (by omega) (by decide) (by decide) (fun z5 zc6 => ?_))
    refine TO.quiet (q_assign rfl) ?_
    refine TO.sub (O' := ([rowI z5 zc6 3 1 ((ints ys) ++ [.int .i64 ((m : Nat) : Int)]), rowI k'.nb k'.nc 52 1 (vals k'.qs), rowI k'.fb k'.fc 4 1 (bools P9.final), oI z3 25 (dC P9 k'), oI z2 25 (dC b k), oI z1 25 (dC a j)] ++ (itms 3 k'.qs))) (by exact Sub.d (.k (.k (.k (.k (.k (.k .rf))))))) ?_
    refine TO.nil (T.region ?_)
    refine TO.quiet (q_move rfl) (TO.quiet (q_addN (a := x) (b := 1) rfl rfl (by omega)) (TO.quiet (q_assign rfl) ?_))
    refine TO.nil ?_
    refine ⟨x + 1, by omega, z5, zc6, ys ++ [(m : Int)], ?_, by omega, by simp; omega, fun y hy9 => ?_, ⟨rfl, rfl, rfl, rfl, rfl, rfl, rfl, rfl, rfl, rfl, rfl, rfl, trivial⟩⟩
    · rw [show ints (ys ++ [(m : Int)]) = ints ys ++ [.int .i64 (m : Int)] by simp]
    by_cases e : y = x
    · subst e; rw [List.getElem?_append_right (by omega), hyl, Nat.sub_self]; rfl
    · rw [List.getElem?_append_left (by omega)]; exact hys y (by omega)
  have hge31 : ¬ x < L := by omega
  refine T.exit ?_
  refine T.seq (T.region ?_)
  refine TO.quiet (q_fieldAddr Tryd.underlying25 rfl inf22 rfl rfl) (TO.quiet (q_load_box 3 Tryd.underlying22 rfl rfl rfl rfl) (TO.quiet (q_move rfl) ?_))
  refine TO.loud rfl (l_build1 (v := (.slice rb x rc)) Tryd.underlying22 inf52 rfl rfl rfl (fun z7 => ?_))
  refine TO.loud rfl (l_append 2 Tryd.underlying22 Tryd.underlying22 inf52 rfl rfl rfl rfl (by rw [List.length_map]; have := congrArg List.length hqs; simpa using this) (by decide) (Src.row (j := 0) rfl (by simp)) (by simp [oneB]) (by omega) (by decide) (by decide) (fun z8 zc9 => ?_))
  refine TO.quiet (q_fieldAddr Tryd.underlying25 rfl inf22 rfl rfl) ?_
  refine TO.loud rfl (l_store_box (v := (.slice z8 (P9.next.length + 1) zc9)) (vs := [(.slice z8 (P9.next.length + 1) zc9)]) 4 inf22 rfl rfl rfl rfl rfl rfl (by simp [putL]) ?_)
  refine TO.nil (T.seq (T.region ?_))
  refine TO.quiet (q_fieldAddr Tryd.underlying25 rfl inf23 rfl rfl) (TO.quiet (q_load_box 4 Tryd.underlying23 rfl rfl rfl rfl) ?_)
  refine TO.loud rfl (l_build1 (v := .bool false) Tryd.underlying23 inf4 rfl rfl rfl (fun z10 => ?_))
  refine TO.loud rfl (l_append 4 Tryd.underlying23 Tryd.underlying23 inf4 rfl rfl rfl rfl (by simp) (by decide) (Src.row (j := 0) rfl (by simp)) (by simp [oneB]) (by omega) (by decide) (by decide) (fun z11 zc12 => ?_))
  refine TO.quiet (q_fieldAddr Tryd.underlying25 rfl inf23 rfl rfl) ?_
  refine TO.loud rfl (l_store_box (v := (.slice z11 (P9.final.length + 1) zc12)) (vs := [(.slice z11 (P9.final.length + 1) zc12)]) 5 inf23 rfl rfl rfl rfl rfl rfl (by simp [putL]) ?_)
  refine TO.nil (T.seq ?_)
  have hxL : x = L := by omega
  have hye : ys = List.replicate (2 ^ P9.vars.toNat) (m : Int) := by
    apply List.ext_getElem?
    intro y
    by_cases hy9 : y < L
    · rw [hys y (by omega), List.getElem?_replicate, if_pos (by rw [hLM]; exact hy9)]
    · rw [List.getElem?_eq_none (by omega), List.getElem?_eq_none (by rw [List.length_replicate, hLM]; omega)]
  have hvq : vals (k'.qs ++ [⟨rb, rc, ys⟩]) = (vals k'.qs) ++ [(.slice rb x rc)] := by simp [Rec.val, hyl]
  have hbq : bools (sinkD P9).final = (bools P9.final) ++ [.bool false] := by simp [sinkD]
  have hnq : nums (k'.qs ++ [⟨rb, rc, ys⟩]) = (sinkD P9).next := by
    show List.map Rec.xs (k'.qs ++ [_]) = _
    rw [List.map_append, show List.map Rec.xs k'.qs = _ from hqs]; show _ ++ [ys] = _; rw [hye, ← hm]; rfl
  obtain ⟨z9, hz9⟩ : ∃ z : DK, z = ⟨z8, zc9, z11, zc12, k'.qs ++ [⟨rb, rc, ys⟩]⟩ := ⟨_, rfl⟩
  obtain ⟨W, hW⟩ : ∃ W, W = sinkD P9 := ⟨_, rfl⟩
  have vW : Valid W := hW ▸ vS
  have hWl : W.next.length = P9.next.length + 1 := by rw [hW, sinkD_len]
  refine T.sub (O' := ([rowI z8 zc9 52 1 ((vals k'.qs) ++ [(.slice rb x rc)]), rowI z11 zc12 4 1 ((bools P9.final) ++ [.bool false]), rowI rb rc 3 1 (ints ys), oI z3 25 [(.int .i64 P9.vars), (.int .i64 P9.start), (.slice z8 (P9.next.length + 1) zc9), (.slice z11 (P9.final.length + 1) zc12)], oI z2 25 (dC b k), oI z1 25 (dC a j)] ++ itms 3 k'.qs)) (by exact Sub.d (.d (.pull [rowI rb rc 3 1 (ints ys)] _ (.pull [rowI rb rc 3 1 (ints ys)] _ (.k (.k (.k (.k .rf)))))))) ?_
  refine T.sub (O' := (([rowI z8 zc9 52 1 (vals (k'.qs ++ [⟨rb, rc, ys⟩])), rowI z11 zc12 4 1 (bools (sinkD P9).final)] ++ itms 3 (k'.qs ++ [⟨rb, rc, ys⟩])) ++ [oI z3 25 [(.int .i64 (sinkD P9).vars), (.int .i64 (sinkD P9).start), (.slice z8 ((sinkD P9).next.length) zc9), (.slice z11 ((sinkD P9).final.length) zc12)], oI z2 25 (dC b k), oI z1 25 (dC a j)])) (by rw [hvq, hbq, show (sinkD P9).next.length = P9.next.length + 1 from sinkD_len _, show (sinkD P9).final.length = P9.final.length + 1 from sinkD_flen _]; exact Sub.fold [rowI z8 zc9 52 1 ((vals k'.qs) ++ [(.slice rb x rc)]), rowI z11 zc12 4 1 ((bools P9.final) ++ [.bool false])] (rowI rb rc 3 1 (ints ys)) [oI z3 25 [(.int .i64 P9.vars), (.int .i64 P9.start), (.slice z8 (P9.next.length + 1) zc9), (.slice z11 (P9.final.length + 1) zc12)], oI z2 25 (dC b k), oI z1 25 (dC a j)] (itms 3 k'.qs) _ (itms_snoc 3 k'.qs ⟨rb, rc, ys⟩)) ?_
  refine T.pack (φ := nums (k'.qs ++ [⟨rb, rc, ys⟩]) = (sinkD P9).next) hnq ?_
  refine T.sub (O' := [dI 52 4 3 W z9, oI z3 25 (dC W z9), oI z2 25 (dC b k), oI z1 25 (dC a j)]) (by subst hz9; subst hW; exact Sub.rf) ?_
  refine T.region ?_
  refine TO.quiet (q_load_boxAgg 1 Tryd.underlying25 rfl inf25 rfl rfl rfl) (TO.quiet (q_fieldAddr Tryd.underlying25 rfl inf3 rfl rfl) (TO.quiet (q_load_box 1 Tryd.underlying3 rfl rfl rfl rfl) (TO.quiet (q_move rfl) ?_)))
  have hk54 := fun (w1 : World) (hI : Inv w [dI 52 4 3 W z9, oI z3 25 (dC W z9), oI z2 25 (dC b k), oI z1 25 (dC a j)] w1) => rDistA w1 W z9.nb z9.fb z9.nc z9.fc (vals z9.qs) (hI.at (k := z9) (List.mem_of_getElem? (i := 0) rfl)) (by have := vW.n4; omega) vW.bound (by have := vW.fin; have := vW.n4; omega) (fun _ => by omega) W.start (m : Int)
  refine TO.loud rfl (l_call ent63 (CallT.of_pure hk54) rfl ?_)
  clear hk54
  rintro vr O' ⟨N, rfl, res, wb, wc, hT, rfl, rfl⟩
  refine TO.quiet (q_move rfl) (TO.quiet (q_extract (vs := _) rfl rfl) (TO.quiet (q_extract (vs := _) rfl rfl) (TO.quiet (q_extract (vs := _) rfl rfl) ?_)))
  refine TO.quiet (q_assign rfl) (TO.quiet (q_assign rfl) (TO.quiet (q_assign rfl) ?_))
  refine TO.nil (T.seq (T.region ?_))
  refine TO.quiet (q_move rfl) (TO.quiet (q_move rfl) (TO.quiet (q_not rfl) (TO.quiet (q_assign rfl) ?_)))
  refine TO.quiet (q_assign rfl) (TO.quiet (q_assign rfl) ?_)
  refine TO.nil (T.ret (Res.drop ?_))
  refine Res.three (.slice wb ((res.getD []).length) wc) (.bool (!res.isSome)) (.int .i64 0) Tryd.results30 rfl rfl rfl ?_
  subst hW
  have hin : InclA a b res := InclA.of_prod he (by omega) (hP.symm ▸ sink_least vP (by omega) (by rw [hm]; exact hT))
  exact ⟨[rowI wb wc 5 1 (byts (res.getD []))], (by exact Sub.k .z), res, wb, wc, hin, rfl, rfl⟩
theorem refInC (w : World) (a b : DFA) (j k : DK) (ha : At w a j) (hb : At w b k) (haa : a.next.length < 9223372036854775807) (haar : ∀ r ∈ a.next, r.length < 9223372036854775807) (haaf : a.final.length < 9223372036854775807) (hbb : b.next.length < 9223372036854775807) (hbbr : ∀ r ∈ b.next, r.length < 9223372036854775807) (hbbf : b.final.length < 9223372036854775807) (hn : wrongD a b = 0 → a.next.length * b.next.length ≤ 64) :
    PureT Tryd.prog 30 [dV a j, dV b k] w fun v N => ∃ res wb wc, InclA a b res ∧ v = .tuple #[.slice wb (res.getD []).length wc, .bool (decide (wrongD a b = 0) && !res.isSome), .int .i64 (wrongD a b : Int)] ∧ N = [rowI wb wc 5 1 (byts (res.getD []))] := by
  by_cases he : wrongD a b = 0
  · refine (refInOk w a b j k ha hb haa haar haaf hbb hbbr hbbf he (hn he)).mono ?_
    rintro v N ⟨res, wb, wc, h1, rfl, rfl⟩
    exact ⟨res, wb, wc, h1, by rw [he]; rfl, rfl⟩
  · refine (CallT.addNil 5 1 (refInBad w a b j k ha hb haa haar haaf hbb hbbr hbbf he)).mono ?_
    rintro v N ⟨O2, rfl, rfl, rfl⟩
    exact ⟨none, none, 0, by unfold InclA; rw [if_neg he], by rw [decide_eq_false he]; rfl, rfl⟩
end Go.Proofs.YtdaapdamcekkgaaDoor

namespace Go.Proofs.YtdaapdamcekkgaaDoor
open Go.Lx Go.RowKit
set_option linter.unusedVariables false
set_option linter.unusedSimpArgs false
set_option maxHeartbeats 1000000 in
set_option maxRecDepth 20000 in
theorem eqlBad (w : World) (a b : DFA) (j k : DK) (ha : At w a j) (hb : At w b k) (haa : a.next.length < 9223372036854775807) (haar : ∀ r ∈ a.next, r.length < 9223372036854775807) (haaf : a.final.length < 9223372036854775807) (hbb : b.next.length < 9223372036854775807) (hbbr : ∀ r ∈ b.next, r.length < 9223372036854775807) (hbbf : b.final.length < 9223372036854775807) (he : wrongD a b ≠ 0) :
    PureT Tryd.prog 27 [dV a j, dV b k] w fun v N => v = .tuple #[.bool false, .int .i64 (wrongD a b : Int)] ∧ N = [] := by
  refine CallT.enter Tryd.func27 rfl Tryd.ntmps27 rfl ?_
  refine T.seq (T.region ?_)
  refine TO.loud rfl (l_box (v := (dV a j)) (cs := (dC a j)) rfl rfl (fun bx1 => ?_))
  refine TO.loud rfl (l_box (v := (dV b k)) (cs := (dC b k)) rfl rfl (fun bx2 => ?_))
  refine TO.quiet (q_assign rfl) (TO.quiet (q_assign rfl) ?_)
  refine TO.nil (T.seq (T.region ?_))
  refine TO.quiet (q_load_boxAgg 1 Tryd.underlying25 rfl inf25 rfl rfl rfl) (TO.quiet (q_load_boxAgg 0 Tryd.underlying25 rfl inf25 rfl rfl rfl) ?_)
  have hk11 := fun (w1 : World) (hI : Inv w [oI bx2 25 (dC b k), oI bx1 25 (dC a j)] w1) => xorC w1 a b j k (hI.atB ha) (hI.atB hb) haa haar haaf hbb hbbr hbbf (fun h => absurd h he)
  refine TO.loud rfl (l_call ent24 (CallT.of_pure hk11) rfl ?_)
  clear hk11
  rintro vr O' ⟨N, rfl, k', rfl, rfl⟩
  refine TO.quiet (q_move rfl) (TO.quiet (q_extract (vs := _) rfl rfl) (TO.quiet (q_extract (vs := _) rfl rfl) ?_))
  refine TO.loud rfl (l_alloc inf25 rfl (fun bx3 => ?_))
  refine TO.loud rfl (l_store_box (v := (dV (opV xorB a b) k')) (vs := (dC (opV xorB a b) k')) 0 inf25 rfl rfl rfl rfl rfl rfl (by simp [putL]) ?_)
  refine TO.quiet (q_assign rfl) ?_
  refine TO.nil (T.seq (T.seq (T.region ?_)))
  refine TO.quiet (q_move rfl) (TO.quiet (q_neq rfl rfl) ?_)
  refine TO.nil ?_
  refine T.cond1 (congrArg Value.bool (decide_eq_true (by omega))) ?_
  refine T.seq (T.region ?_)
  refine TO.quiet (q_move rfl) (TO.quiet (q_assign rfl) (TO.quiet (q_assign rfl) ?_))
  refine TO.nil (T.ret (Res.drop ?_))
  refine Res.two (.bool false) (.int .i64 (wrongD a b : Int)) Tryd.results27 rfl rfl ?_
  exact ⟨[], Sub.z, rfl, rfl⟩
set_option maxHeartbeats 1000000 in
set_option maxRecDepth 20000 in
theorem eqlOk (w : World) (a b : DFA) (j k : DK) (ha : At w a j) (hb : At w b k) (haa : a.next.length < 9223372036854775807) (haar : ∀ r ∈ a.next, r.length < 9223372036854775807) (haaf : a.final.length < 9223372036854775807) (hbb : b.next.length < 9223372036854775807) (hbbr : ∀ r ∈ b.next, r.length < 9223372036854775807) (hbbf : b.final.length < 9223372036854775807) (he : wrongD a b = 0) (hn : a.next.length * b.next.length ≤ 4096) (hN9 : (order (prodD xorB a b)).length < 100) :
    PureT Tryd.prog 27 [dV a j, dV b k] w fun v N => v = .tuple #[.bool (decide ((opD xorB a b).next.length = 1) && !finN (opD xorB a b) 0), .int .i64 0] ∧ N = [] := by
  refine CallT.enter Tryd.func27 rfl Tryd.ntmps27 rfl ?_
  obtain ⟨va, vb, hv⟩ := wrongD_zero.1 he
  have vM := opD_valid (f := xorB) va vb hv hn
  obtain ⟨M, hM⟩ : ∃ M, opD xorB a b = M := ⟨_, rfl⟩
  rw [hM] at vM
  have h0 := vM.n0
  have hf := vM.fin
  have hf0 : (bools M.final)[0]? = some (.bool (finN M 0)) := by
    rw [bools_get (by omega)]; unfold finN; rw [List.getD_eq_getElem?_getD, List.getElem?_eq_getElem (by omega)]; rfl
  refine T.seq (T.region ?_)
  refine TO.loud rfl (l_box (v := (dV a j)) (cs := (dC a j)) rfl rfl (fun bx1 => ?_))
  refine TO.loud rfl (l_box (v := (dV b k)) (cs := (dC b k)) rfl rfl (fun bx2 => ?_))
  refine TO.quiet (q_assign rfl) (TO.quiet (q_assign rfl) ?_)
  refine TO.nil (T.seq (T.region ?_))
  refine TO.quiet (q_load_boxAgg 1 Tryd.underlying25 rfl inf25 rfl rfl rfl) (TO.quiet (q_load_boxAgg 0 Tryd.underlying25 rfl inf25 rfl rfl rfl) ?_)
  have hk11 := fun (w1 : World) (hI : Inv w [oI bx2 25 (dC b k), oI bx1 25 (dC a j)] w1) => (show PureT _ _ _ _ _ from by have h9 := xorC w1 a b j k (hI.atB ha) (hI.atB hb) haa haar haaf hbb hbbr hbbf (fun _ => ⟨hn, hN9⟩); rw [opV_ok he, he, hM] at h9; exact h9)
  refine TO.loud rfl (l_call ent24 (CallT.of_pure hk11) rfl ?_)
  clear hk11
  rintro vr O' ⟨N, rfl, k', rfl, rfl⟩
  refine TO.quiet (q_move rfl) (TO.quiet (q_extract (vs := _) rfl rfl) (TO.quiet (q_extract (vs := _) rfl rfl) ?_))
  refine TO.loud rfl (l_alloc inf25 rfl (fun bx3 => ?_))
  refine TO.loud rfl (l_store_box (v := (dV M k')) (vs := (dC M k')) 0 inf25 rfl rfl rfl rfl rfl rfl (by simp [putL]) ?_)
  refine TO.quiet (q_assign rfl) ?_
  refine TO.nil (T.seq (T.seq (T.region ?_)))
  refine TO.quiet (q_move rfl) (TO.quiet (q_neq rfl rfl) ?_)
  refine TO.nil ?_
  refine T.cond0 rfl ?_
  refine T.skip (T.seq (T.region ?_))
  refine TO.quiet (q_fieldAddr Tryd.underlying25 rfl inf22 rfl rfl) (TO.quiet (q_load_box 0 Tryd.underlying22 rfl rfl rfl rfl) (TO.quiet (q_len Tryd.underlying22 rfl) (TO.quiet (q_eql rfl rfl) ?_)))
  by_cases hs21 : (M.next.length : Int) = 1
  · refine TO.quiet (QT.toB (q_move rfl) (decide_eq_true hs21)) ?_
    refine TO.guarded rfl rfl rfl (LT.of_quiet rfl rfl (q_fieldAddr Tryd.underlying25 rfl inf23 rfl rfl) ?_)
    refine TO.guarded rfl rfl rfl (LT.of_quiet rfl rfl (q_load_box 0 Tryd.underlying23 rfl rfl rfl rfl) ?_)
    refine TO.guarded rfl rfl rfl (LT.of_quiet rfl rfl (q_ix (i := 0) Tryd.underlying23 inf4 rfl rfl (fun w9 hI9 => (hI9.at (k := k') (List.mem_of_getElem? (i := 1) rfl)).final) (by omega) (by rw [List.length_map]; omega)) ?_)
    refine TO.guarded rfl rfl rfl (LT.of_quiet rfl rfl (q_ld Tryd.underlying4 rfl rfl (fun w9 hI9 => (hI9.at (k := k') (List.mem_of_getElem? (i := 1) rfl)).final) hf0) ?_)
    refine TO.guarded rfl rfl rfl (LT.of_quiet rfl rfl (q_not rfl) ?_)
    refine TO.quiet (q_pick1 rfl rfl) (TO.quiet (q_assign rfl) (TO.quiet (q_assign rfl) ?_))
    refine TO.nil (T.ret (Res.drop ?_))
    refine Res.two (.bool (!(finN M 0))) (.int .i64 0) Tryd.results27 rfl rfl ?_
    rw [hM]
    exact ⟨[], Sub.z, by first | rw [decide_eq_true (show M.next.length = 1 by omega)]; rfl | rw [decide_eq_false (show ¬ M.next.length = 1 by omega)]; rfl, rfl⟩
  refine TO.quiet (QT.toB (q_move rfl) (decide_eq_false hs21)) ?_
  refine TO.passed rfl rfl ?_
  refine TO.passed rfl rfl ?_
  refine TO.passed rfl rfl ?_
  refine TO.passed rfl rfl ?_
  refine TO.passed rfl rfl ?_
  refine TO.quiet (q_pick0 rfl rfl) (TO.quiet (q_assign rfl) (TO.quiet (q_assign rfl) ?_))
  refine TO.nil (T.ret (Res.drop ?_))
  refine Res.two (.bool false) (.int .i64 0) Tryd.results27 rfl rfl ?_
  rw [hM]
  exact ⟨[], Sub.z, by first | rw [decide_eq_true (show M.next.length = 1 by omega)]; rfl | rw [decide_eq_false (show ¬ M.next.length = 1 by omega)]; rfl, rfl⟩
theorem eqlC (w : World) (a b : DFA) (j k : DK) (ha : At w a j) (hb : At w b k) (haa : a.next.length < 9223372036854775807) (haar : ∀ r ∈ a.next, r.length < 9223372036854775807) (haaf : a.final.length < 9223372036854775807) (hbb : b.next.length < 9223372036854775807) (hbbr : ∀ r ∈ b.next, r.length < 9223372036854775807) (hbbf : b.final.length < 9223372036854775807) (hN : wrongD a b = 0 → a.next.length * b.next.length ≤ 4096 ∧ (order (prodD xorB a b)).length < 100) :
    PureT Tryd.prog 27 [dV a j, dV b k] w fun v N => v = .tuple #[.bool (eqlA a b), .int .i64 (wrongD a b : Int)] ∧ N = [] := by
  by_cases he : wrongD a b = 0
  · rw [eqlA_ok he, he]
    exact eqlOk w a b j k ha hb haa haar haaf hbb hbbr hbbf he (hN he).1 (hN he).2
  · rw [eqlA_bad he]
    exact eqlBad w a b j k ha hb haa haar haaf hbb hbbr hbbf he
set_option maxHeartbeats 1000000 in
set_option maxRecDepth 20000 in
theorem bAllC (w : World) (n : Int) (L : List DRec) (b : Option Addr) (c : Nat) (hS : Sl w b (dcells L)) (hD : ∀ r ∈ L, DfaAt w r.d r.nb r.vs r.fb) (hB : ∀ r ∈ L, r.d.next.length < 9223372036854775807 ∧ (∀ x ∈ r.d.next, x.length < 9223372036854775807) ∧ r.d.final.length < 9223372036854775807) (hL : L.length < 1000) (hA : 0 ≤ n → n ≤ 6 → AllOk (stayD n true) (L.map DRec.d)) :
    PureT Tryd.prog 32 [.int .i64 n, .slice b L.length c] w fun v N => ∃ k' : DK, v = .tuple #[dV (allV n (L.map DRec.d)).1 k', .int .i64 ((allV n (L.map DRec.d)).2 : Int)] ∧ N = [dI 52 4 3 (allV n (L.map DRec.d)).1 k'] := by
  refine CallT.enter Tryd.func32 rfl Tryd.ntmps32 rfl ?_
  refine T.seq (T.region ?_)
  refine TO.loud rfl (l_alloc inf25 rfl (fun z1 => ?_))
  refine TO.quiet (q_assign rfl) ?_
  refine TO.nil (T.seq (T.seq (T.region ?_)))
  refine TO.quiet (q_move rfl) ?_
  by_cases hn0 : n < 0
  · refine TO.quiet (QT.toB (q_lss rfl rfl) (decide_eq_true hn0)) ?_
    refine TO.quiet (q_move rfl) ?_
    refine TO.passed rfl rfl ?_
    refine TO.passed rfl rfl ?_
    refine TO.quiet (q_pick1 rfl rfl) ?_
    refine TO.nil ?_
    refine T.cond1 rfl ?_
    refine T.seq ?_
    refine T.nilD 52 4 3 ?_
    refine T.region ?_
    refine TO.quiet (q_build plan25 inf25 rfl) ?_
    refine TO.loud rfl (l_store_box (v := (.agg #[(.int .i64 0), (.int .i64 0), (.slice none 0 0), (.slice none 0 0)])) (vs := [(.int .i64 0), (.int .i64 0), (.slice none 0 0), (.slice none 0 0)]) 1 inf25 rfl rfl rfl rfl rfl rfl (by simp [putL]) ?_)
    refine TO.quiet (q_assign rfl) ?_
    refine TO.nil (T.ret (Res.drop ?_))
    refine Res.cell1b (.int .i64 7) (i := 1) Tryd.results32 Tryd.underlying25 rfl inf25 rfl rfl rfl rfl ?_
    have e9 : allV n (L.map DRec.d) = (noD, 7) := by unfold allV; rw [if_neg (by omega)]
    rw [e9]
    exact ⟨[dI 52 4 3 noD k00], (by exact Sub.k .z), k00, rfl, rfl⟩
  refine TO.quiet (QT.toB (q_lss rfl rfl) (decide_eq_false hn0)) (TO.quiet (q_move rfl) ?_)
  refine TO.guarded rfl rfl rfl (LT.of_quiet rfl rfl (q_move rfl) ?_)
  by_cases hn6 : (6 : Int) < n
  · refine TO.guarded rfl rfl rfl (LT.of_quiet rfl rfl (QT.toB (q_gtr rfl rfl) (decide_eq_true hn6)) ?_)
    refine TO.quiet (q_pick0 rfl rfl) ?_
    refine TO.nil ?_
    refine T.cond1 rfl ?_
    refine T.seq ?_
    refine T.nilD 52 4 3 ?_
    refine T.region ?_
    refine TO.quiet (q_build plan25 inf25 rfl) ?_
    refine TO.loud rfl (l_store_box (v := (.agg #[(.int .i64 0), (.int .i64 0), (.slice none 0 0), (.slice none 0 0)])) (vs := [(.int .i64 0), (.int .i64 0), (.slice none 0 0), (.slice none 0 0)]) 1 inf25 rfl rfl rfl rfl rfl rfl (by simp [putL]) ?_)
    refine TO.quiet (q_assign rfl) ?_
    refine TO.nil (T.ret (Res.drop ?_))
    refine Res.cell1b (.int .i64 7) (i := 1) Tryd.results32 Tryd.underlying25 rfl inf25 rfl rfl rfl rfl ?_
    have e9 : allV n (L.map DRec.d) = (noD, 7) := by unfold allV; rw [if_neg (by omega)]
    rw [e9]
    exact ⟨[dI 52 4 3 noD k00], (by exact Sub.k .z), k00, rfl, rfl⟩
  refine TO.guarded rfl rfl rfl (LT.of_quiet rfl rfl (QT.toB (q_gtr rfl rfl) (decide_eq_false hn6)) ?_)
  refine TO.quiet (q_pick0 rfl rfl) ?_
  refine TO.nil ?_
  refine T.cond0 rfl ?_
  refine T.skip (T.seq ?_)
  have h0 : 0 ≤ n := by omega
  have h6 : n ≤ 6 := by omega
  obtain ⟨W, hW⟩ : ∃ W, 2 ^ n.toNat = W := ⟨_, rfl⟩
  have hW6 : W ≤ 64 := by rw [← hW]; exact Nat.le_trans (Nat.pow_le_pow_right (by omega) (show n.toNat ≤ 6 by omega)) (by decide)
  refine T.region ?_
  refine TO.quiet (q_move rfl) (TO.quiet (q_move rfl) (TO.quiet (QT.cast (q_shl1 (v := n.toNat) rfl (by show Value.int _ n = _; rw [Int.toNat_of_nonneg h0]) (by omega)) (v' := .int .i64 ((W : Nat) : Int)) (by rw [hW])) ?_))
  refine TO.loud rfl (l_makeSlice (m := W) Tryd.underlying52 inf3 rfl rfl (by omega) (by omega) (fun z2 => ?_))
  refine TO.loud rfl (l_build1 (v := (.slice (some ⟨z2, 0, none⟩) W W)) Tryd.underlying22 inf52 rfl rfl rfl (fun z3 => ?_))
  refine TO.loud rfl (l_build1 (v := .bool true) Tryd.underlying23 inf4 rfl rfl rfl (fun z4 => ?_))
  refine TO.quiet (q_build (cs := [.int .i64 n, (.int .i64 0), (.slice (some ⟨z3, 0, none⟩) 1 1), (.slice (some ⟨z4, 0, none⟩) 1 1)]) plan25 inf25 (by kernel_rfl)) ?_
  refine TO.loud rfl (l_alloc inf25 rfl (fun z5 => ?_))
  refine TO.loud rfl (l_store_box (v := (.agg #[.int .i64 n, (.int .i64 0), (.slice (some ⟨z3, 0, none⟩) 1 1), (.slice (some ⟨z4, 0, none⟩) 1 1)])) (vs := [.int .i64 n, (.int .i64 0), (.slice (some ⟨z3, 0, none⟩) 1 1), (.slice (some ⟨z4, 0, none⟩) 1 1)]) 0 inf25 rfl rfl rfl rfl rfl rfl (by simp [putL]) ?_)
  refine TO.nil (T.seq (T.seq (T.region ?_)))
  refine TO.quiet (q_move rfl) (TO.quiet (q_len Tryd.underlying48 rfl) (TO.quiet (q_move rfl) ?_))
  refine TO.nil (T.block ?_)
  refine T.sub (O' := [rowI (some ⟨z3, 0, none⟩) 1 52 1 [(.slice (some ⟨z2, 0, none⟩) W W)], rowI (some ⟨z4, 0, none⟩) 1 4 1 [.bool true], rowI (some ⟨z2, 0, none⟩) W 3 1 (List.replicate W (.int .i64 0)), oI z5 25 [.int .i64 n, (.int .i64 0), (.slice (some ⟨z3, 0, none⟩) 1 1), (.slice (some ⟨z4, 0, none⟩) 1 1)], oI z1 25 [(.int .i64 0), (.int .i64 0), (.slice none 0 0), (.slice none 0 0)]]) (by exact Sub.pull [oI z5 25 [.int .i64 n, (.int .i64 0), (.slice (some ⟨z3, 0, none⟩) 1 1), (.slice (some ⟨z4, 0, none⟩) 1 1)], rowI (some ⟨z4, 0, none⟩) 1 4 1 [.bool true]] _ (.pull [oI z5 25 [.int .i64 n, (.int .i64 0), (.slice (some ⟨z3, 0, none⟩) 1 1), (.slice (some ⟨z4, 0, none⟩) 1 1)]] _ (.pull [oI z5 25 [.int .i64 n, (.int .i64 0), (.slice (some ⟨z3, 0, none⟩) 1 1), (.slice (some ⟨z4, 0, none⟩) 1 1)]] _ (.k (.k .z))))) ?_
  refine T.sub (O' := (([rowI (some ⟨z3, 0, none⟩) 1 52 1 (vals [⟨some ⟨z2, 0, none⟩, W, List.replicate W 0⟩]), rowI (some ⟨z4, 0, none⟩) 1 4 1 (bools [true])] ++ itms 3 [⟨some ⟨z2, 0, none⟩, W, List.replicate W 0⟩]) ++ [oI z5 25 [.int .i64 n, (.int .i64 0), (.slice (some ⟨z3, 0, none⟩) 1 1), (.slice (some ⟨z4, 0, none⟩) 1 1)], oI z1 25 [(.int .i64 0), (.int .i64 0), (.slice none 0 0), (.slice none 0 0)]])) (by rw [show vals [(⟨some ⟨z2, 0, none⟩, W, List.replicate W 0⟩ : Rec)] = [(.slice (some ⟨z2, 0, none⟩) W W)] by simp [Rec.val], show itms 3 [(⟨some ⟨z2, 0, none⟩, W, List.replicate W 0⟩ : Rec)] = [rowI (some ⟨z2, 0, none⟩) W 3 1 (ints (List.replicate W 0))] from rfl, show ints (List.replicate W 0) = List.replicate W (.int .i64 0) by simp]; exact Sub.rf) ?_
  refine T.pack (φ := nums [(⟨some ⟨z2, 0, none⟩, W, List.replicate W 0⟩ : Rec)] = (stayD n true).next) (by rw [← hW]; rfl) ?_
  obtain ⟨d0, hd0⟩ : ∃ d, d = stayD n true := ⟨_, rfl⟩
  obtain ⟨k0, hk0⟩ : ∃ k : DK, k = ⟨some ⟨z3, 0, none⟩, 1, some ⟨z4, 0, none⟩, 1, [⟨some ⟨z2, 0, none⟩, W, List.replicate W 0⟩]⟩ := ⟨_, rfl⟩
  have v0 : Valid d0 := hd0 ▸ stay_valid h0 h6 true
  have hA0 : AllOk d0 (L.map DRec.d) := hd0 ▸ hA h0 h6
  refine T.sub (O' := [dI 52 4 3 d0 k0, oI z5 25 (dC d0 k0), oI z1 25 [(.int .i64 0), (.int .i64 0), (.slice none 0 0), (.slice none 0 0)]]) (by subst hk0; subst hd0; exact Sub.rf) ?_
  refine T.loopS (fun (i : Nat) ρ O => ∃ (d : DFA) (kd : DK), O = [dI 52 4 3 d kd, oI z5 25 (dC d kd), oI z1 25 [(.int .i64 0), (.int .i64 0), (.slice none 0 0), (.slice none 0 0)]] ∧ i ≤ L.length ∧ Valid d ∧ allR (stayD n true) (L.map DRec.d) = allR d ((L.map DRec.d).drop i) ∧ AllOk d ((L.map DRec.d).drop i) ∧ Heads [(0, .int .i64 n), (1, (.slice b L.length c)), (4, (.pointer (some ⟨z1, 0, none⟩))), (6, (.pointer (some ⟨z5, 0, none⟩))), (25, (.slice b L.length c)), (26, .int .i64 (L.length : Int)), (27, .int .i64 ((i : Nat) : Int))] ρ) (fun i => L.length - i) 0 ?_ ?_
  · exact ⟨d0, k0, rfl, Nat.zero_le _, v0, by rw [hd0]; rfl, hA0, ⟨rfl, rfl, rfl, rfl, rfl, rfl, rfl, trivial⟩⟩
  rintro i ρ O ⟨d, kd, rfl, hi, vd, hall, hok, hH⟩
  obtain ⟨ρ0, rfl⟩ := hH.elim
  clear hH
  refine T.seq (T.region ?_)
  refine TO.quiet (q_lss rfl rfl) ?_
  refine TO.nil (T.seq ?_)
  refine T.condP rfl (fun hc => ?_) (fun hc => ?_)
  · have hlt28 : i < L.length := by omega
    have hmem := List.getElem_mem hlt28
    obtain ⟨kx, hAx, hkx⟩ := (hD _ hmem).dk L[i].nc L[i].fc
    obtain ⟨hB1, hB2, hB3⟩ := hB _ hmem
    refine T.skip (T.seq (T.block (T.seq (T.region ?_))))
    refine TO.quiet (q_ixK (i := i) Tryd.underlying48 inf25 rfl rfl (Sl.o hS) hlt28 (by rw [dcells_len]; omega)) (TO.quiet (q_ldK (vs := [(.int .i64 L[i].d.vars), (.int .i64 L[i].d.start), (.slice kx.nb L[i].d.next.length kx.nc), (.slice kx.fb L[i].d.final.length kx.fc)]) Tryd.underlying25 rfl inf25 rfl rfl (Nat.succ_pos _) (Sl.o hS) (fun j hj => by rw [dcells_get hlt28 hj, show L[i].cells = dC L[i].d kx from hkx]; exact List.getElem?_eq_getElem hj)) ?_)
    refine TO.loud rfl (l_alloc inf25 rfl (fun z6 => ?_))
    refine TO.loud rfl (l_store_box (v := (.agg #[(.int .i64 L[i].d.vars), (.int .i64 L[i].d.start), (.slice kx.nb L[i].d.next.length kx.nc), (.slice kx.fb L[i].d.final.length kx.fc)])) (vs := [(.int .i64 L[i].d.vars), (.int .i64 L[i].d.start), (.slice kx.nb L[i].d.next.length kx.nc), (.slice kx.fb L[i].d.final.length kx.fc)]) 0 inf25 rfl rfl rfl rfl rfl rfl (by simp [putL]) ?_)
    refine TO.nil (T.seq (T.region ?_))
    refine TO.quiet (q_load_boxAgg 2 Tryd.underlying25 rfl inf25 rfl rfl rfl) (TO.quiet (q_load_boxAgg 0 Tryd.underlying25 rfl inf25 rfl rfl rfl) ?_)
    have hk34 := fun (w1 : World) (hI : Inv w [oI z6 25 [(.int .i64 L[i].d.vars), (.int .i64 L[i].d.start), (.slice kx.nb L[i].d.next.length kx.nc), (.slice kx.fb L[i].d.final.length kx.fc)], dI 52 4 3 d kd, oI z5 25 (dC d kd), oI z1 25 [(.int .i64 0), (.int .i64 0), (.slice none 0 0), (.slice none 0 0)]] w1) => andC w1 d L[i].d kd kx (hI.at (k := kd) (List.mem_of_getElem? (i := 1) rfl)) (hI.atB hAx) (by have := vd.n4; omega) vd.bound (by have := vd.fin; have := vd.n4; omega) hB1 hB2 hB3 (fun hw => by
        obtain ⟨_, vx, hvx⟩ := wrongD_zero.1 hw
        have h64 := (AllOk.at (by rw [List.length_map]; exact hlt28) hok (by rw [List.getElem_map]; exact hw)).1
        rw [List.getElem_map] at h64
        exact ⟨by omega, Nat.lt_of_le_of_lt (pr_order_le vd vx hvx) (by omega)⟩)
    refine TO.loud rfl (l_call ent22 (CallT.of_pure hk34) rfl ?_)
    clear hk34
    rintro vr O' ⟨N, rfl, k', rfl, rfl⟩
    refine TO.quiet (q_move rfl) (TO.quiet (q_extract (vs := _) rfl rfl) (TO.quiet (q_extract (vs := _) rfl rfl) ?_))
    refine TO.loud rfl (l_alloc inf25 rfl (fun z7 => ?_))
    refine TO.loud rfl (l_store_box (v := (.agg #[(.int .i64 (opV andB d L[i].d).vars), (.int .i64 (opV andB d L[i].d).start), (.slice k'.nb ((opV andB d L[i].d).next.length) k'.nc), (.slice k'.fb ((opV andB d L[i].d).final.length) k'.fc)])) (vs := [(.int .i64 (opV andB d L[i].d).vars), (.int .i64 (opV andB d L[i].d).start), (.slice k'.nb ((opV andB d L[i].d).next.length) k'.nc), (.slice k'.fb ((opV andB d L[i].d).final.length) k'.fc)]) 0 inf25 rfl rfl rfl rfl rfl rfl (by simp [putL]) ?_)
    refine TO.quiet (q_assign rfl) ?_
    refine TO.nil (T.seq (T.seq (T.region ?_)))
    refine TO.quiet (q_move rfl) (TO.quiet (q_neq rfl rfl) ?_)
    refine TO.nil ?_
    refine T.condP rfl (fun hc => ?_) (fun hc => ?_)
    · have hlt38 : wrongD d L[i].d ≠ 0 := by omega
      refine T.seq ?_
      refine T.nilD 52 4 3 ?_
      refine T.region ?_
      refine TO.quiet (q_build plan25 inf25 rfl) (TO.quiet (q_move rfl) ?_)
      refine TO.loud rfl (l_store_box (v := (.agg #[(.int .i64 0), (.int .i64 0), (.slice none 0 0), (.slice none 0 0)])) (vs := [(.int .i64 0), (.int .i64 0), (.slice none 0 0), (.slice none 0 0)]) 6 inf25 rfl rfl rfl rfl rfl rfl (by simp [putL]) ?_)
      refine TO.quiet (q_assign rfl) ?_
      refine TO.nil (T.ret (Res.drop ?_))
      refine Res.cell1b (.int .i64 (wrongD d L[i].d : Int)) (i := 6) Tryd.results32 Tryd.underlying25 rfl inf25 rfl rfl rfl rfl ?_
      have e9 : allV n (L.map DRec.d) = (noD, wrongD d L[i].d) := by
        unfold allV
        rw [if_pos ⟨h0, h6⟩, hall, allR_at (by rw [List.length_map]; exact hlt28), List.getElem_map, if_neg (by omega)]
      rw [e9]
      exact ⟨[dI 52 4 3 noD k00], (by exact Sub.k .z), k00, rfl, rfl⟩
    have hge38 : ¬ wrongD d L[i].d ≠ 0 := by omega
    refine T.skip ?_
    have hw0 : wrongD d L[i].d = 0 := by omega
    obtain ⟨_, vx, hvx⟩ := wrongD_zero.1 hw0
    obtain ⟨h64, hok2⟩ := AllOk.at (by rw [List.length_map]; exact hlt28) hok (by rw [List.getElem_map]; exact hw0)
    rw [List.getElem_map] at h64 hok2
    refine T.sub (O' := [oI z7 25 [(.int .i64 (opD andB d L[i].d).vars), (.int .i64 (opD andB d L[i].d).start), (.slice k'.nb ((opD andB d L[i].d).next.length) k'.nc), (.slice k'.fb ((opD andB d L[i].d).final.length) k'.fc)], dI 52 4 3 (opD andB d L[i].d) k', oI z6 25 [(.int .i64 L[i].d.vars), (.int .i64 L[i].d.start), (.slice kx.nb L[i].d.next.length kx.nc), (.slice kx.fb L[i].d.final.length kx.fc)], dI 52 4 3 d kd, oI z5 25 (dC d kd), oI z1 25 [(.int .i64 0), (.int .i64 0), (.slice none 0 0), (.slice none 0 0)]]) (by rw [← opV_ok (f := andB) hw0]; exact Sub.rf) ?_
    refine T.region ?_
    refine TO.quiet (q_load_boxAgg 0 Tryd.underlying25 rfl inf25 rfl rfl rfl) ?_
    refine TO.loud rfl (l_store_box (v := (.agg #[(.int .i64 (opD andB d L[i].d).vars), (.int .i64 (opD andB d L[i].d).start), (.slice k'.nb ((opD andB d L[i].d).next.length) k'.nc), (.slice k'.fb ((opD andB d L[i].d).final.length) k'.fc)])) (vs := [(.int .i64 (opD andB d L[i].d).vars), (.int .i64 (opD andB d L[i].d).start), (.slice k'.nb ((opD andB d L[i].d).next.length) k'.nc), (.slice k'.fb ((opD andB d L[i].d).final.length) k'.fc)]) 4 inf25 rfl rfl rfl rfl rfl rfl (by simp [putL]) ?_)
    refine TO.nil (T.region ?_)
    refine TO.quiet (q_addN (a := i) (b := 1) rfl rfl (by omega)) (TO.quiet (q_move rfl) ?_)
    refine TO.nil ?_
    refine ⟨i + 1, by omega, [dI 52 4 3 (opD andB d L[i].d) k', oI z5 25 [(.int .i64 (opD andB d L[i].d).vars), (.int .i64 (opD andB d L[i].d).start), (.slice k'.nb ((opD andB d L[i].d).next.length) k'.nc), (.slice k'.fb ((opD andB d L[i].d).final.length) k'.fc)], oI z1 25 [(.int .i64 0), (.int .i64 0), (.slice none 0 0), (.slice none 0 0)]], (by exact Sub.d (.k (.d (.d (.k (.k .z)))))), opD andB d L[i].d, k', rfl, by omega, opD_valid vd vx hvx (by omega), ?_, hok2, ⟨rfl, rfl, rfl, rfl, rfl, rfl, rfl, trivial⟩⟩
    rw [hall, allR_at (by rw [List.length_map]; exact hlt28), List.getElem_map, if_pos hw0]
  have hge28 : ¬ i < L.length := by omega
  refine T.exit ?_
  refine T.seq (T.region ?_)
  refine TO.quiet (q_load_boxAgg 1 Tryd.underlying25 rfl inf25 rfl rfl rfl) ?_
  refine TO.loud rfl (l_store_box (v := (dV d kd)) (vs := (dC d kd)) 2 inf25 rfl rfl rfl rfl rfl rfl (by simp [putL]) ?_)
  refine TO.quiet (q_assign rfl) ?_
  refine TO.nil (T.ret (Res.drop ?_))
  refine Res.cell1b (.int .i64 0) (i := 2) Tryd.results32 Tryd.underlying25 rfl inf25 rfl rfl rfl rfl ?_
  have e9 : allV n (L.map DRec.d) = (d, 0) := by
    unfold allV
    rw [if_pos ⟨h0, h6⟩, hall, allR_end (by rw [List.length_map]; omega)]
  rw [e9]
  exact ⟨[dI 52 4 3 d kd], (by exact Sub.k .z), kd, rfl, rfl⟩
end Go.Proofs.YtdaapdamcekkgaaDoor

namespace Go.Proofs.YtdaapdamcekkgaaDoor
open Go.Lx Go.RowKit
set_option linter.unusedVariables false
set_option linter.unusedSimpArgs false
set_option maxHeartbeats 1000000 in
set_option maxRecDepth 20000 in
theorem inclBad (w : World) (a b : DFA) (j k : DK) (ha : At w a j) (hb : At w b k) (haa : a.next.length < 9223372036854775807) (haar : ∀ r ∈ a.next, r.length < 9223372036854775807) (haaf : a.final.length < 9223372036854775807) (hbb : b.next.length < 9223372036854775807) (hbbr : ∀ r ∈ b.next, r.length < 9223372036854775807) (hbbf : b.final.length < 9223372036854775807) (he : wrongD a b ≠ 0) :
    PureT Tryd.prog 26 [dV a j, dV b k] w fun v N => v = .tuple #[.slice none 0 0, .bool false, .int .i64 (wrongD a b : Int)] ∧ N = [] := by
  refine CallT.enter Tryd.func26 rfl Tryd.ntmps26 rfl ?_
  refine T.seq (T.region ?_)
  refine TO.loud rfl (l_box (v := (dV a j)) (cs := (dC a j)) rfl rfl (fun bx1 => ?_))
  refine TO.loud rfl (l_box (v := (dV b k)) (cs := (dC b k)) rfl rfl (fun bx2 => ?_))
  refine TO.quiet (q_assign rfl) (TO.quiet (q_assign rfl) (TO.quiet (q_assign rfl) ?_))
  refine TO.nil (T.seq (T.region ?_))
  refine TO.quiet (q_load_boxAgg 1 Tryd.underlying25 rfl inf25 rfl rfl rfl) (TO.quiet (q_load_boxAgg 0 Tryd.underlying25 rfl inf25 rfl rfl rfl) ?_)
  have hk15 := fun (w1 : World) (hI : Inv w [oI bx2 25 (dC b k), oI bx1 25 (dC a j)] w1) => minusC w1 a b j k (hI.atB ha) (hI.atB hb) haa haar haaf hbb hbbr hbbf (fun h => absurd h he)
  refine TO.loud rfl (l_call ent25 (CallT.of_pure hk15) rfl ?_)
  clear hk15
  rintro vr O' ⟨N, rfl, k', rfl, rfl⟩
  refine TO.quiet (q_move rfl) (TO.quiet (q_extract (vs := _) rfl rfl) (TO.quiet (q_extract (vs := _) rfl rfl) ?_))
  refine TO.loud rfl (l_alloc inf25 rfl (fun bx3 => ?_))
  refine TO.loud rfl (l_store_box (v := (dV (opV minusB a b) k')) (vs := (dC (opV minusB a b) k')) 0 inf25 rfl rfl rfl rfl rfl rfl (by simp [putL]) ?_)
  refine TO.quiet (q_assign rfl) ?_
  refine TO.nil (T.seq (T.seq (T.region ?_)))
  refine TO.quiet (q_move rfl) (TO.quiet (q_neq rfl rfl) ?_)
  refine TO.nil ?_
  refine T.cond1 (congrArg Value.bool (decide_eq_true (by omega))) ?_
  refine T.seq (T.region ?_)
  refine TO.quiet (q_move rfl) (TO.quiet (q_assign rfl) (TO.quiet (q_assign rfl) (TO.quiet (q_assign rfl) ?_)))
  refine TO.nil (T.ret (Res.drop ?_))
  refine Res.three (.slice none 0 0) (.bool false) (.int .i64 (wrongD a b : Int)) Tryd.results26 rfl rfl rfl ?_
  exact ⟨[], Sub.z, rfl, rfl⟩
set_option maxHeartbeats 1000000 in
set_option maxRecDepth 20000 in
theorem inclOk (w : World) (a b : DFA) (j k : DK) (ha : At w a j) (hb : At w b k) (haa : a.next.length < 9223372036854775807) (haar : ∀ r ∈ a.next, r.length < 9223372036854775807) (haaf : a.final.length < 9223372036854775807) (hbb : b.next.length < 9223372036854775807) (hbbr : ∀ r ∈ b.next, r.length < 9223372036854775807) (hbbf : b.final.length < 9223372036854775807) (he : wrongD a b = 0) (hn : a.next.length * b.next.length ≤ 64) :
    PureT Tryd.prog 26 [dV a j, dV b k] w fun v N => ∃ res wb wc, InclA a b res ∧ v = .tuple #[.slice wb (res.getD []).length wc, .bool (!res.isSome), .int .i64 0] ∧ N = [rowI wb wc 5 1 (byts (res.getD []))] := by
  refine CallT.enter Tryd.func26 rfl Tryd.ntmps26 rfl ?_
  obtain ⟨va, vb, hv⟩ := wrongD_zero.1 he
  have vM := opD_valid (f := minusB) va vb hv (by omega)
  have hml := opD_len (f := minusB) va vb hv (by omega)
  obtain ⟨M, hM⟩ : ∃ M, opD minusB a b = M := ⟨_, rfl⟩
  rw [hM] at vM hml
  obtain ⟨L, hL⟩ : ∃ L, 2 ^ M.vars.toNat = L := ⟨_, rfl⟩
  have hw : L ≤ 64 := by rw [← hL]; exact vM.width
  obtain ⟨m, hm⟩ : ∃ m, M.next.length = m := ⟨_, rfl⟩
  have vS := sinkD_valid vM (by omega)
  have hmf := vM.fin
  refine T.seq (T.region ?_)
  refine TO.loud rfl (l_box (v := (dV a j)) (cs := (dC a j)) rfl rfl (fun z1 => ?_))
  refine TO.loud rfl (l_box (v := (dV b k)) (cs := (dC b k)) rfl rfl (fun z2 => ?_))
  refine TO.quiet (q_assign rfl) (TO.quiet (q_assign rfl) (TO.quiet (q_assign rfl) ?_))
  refine TO.nil (T.seq (T.region ?_))
  refine TO.quiet (q_load_boxAgg 1 Tryd.underlying25 rfl inf25 rfl rfl rfl) (TO.quiet (q_load_boxAgg 0 Tryd.underlying25 rfl inf25 rfl rfl rfl) ?_)
  have hk15 := fun (w1 : World) (hI : Inv w [oI z2 25 (dC b k), oI z1 25 (dC a j)] w1) => (show PureT _ _ _ _ _ from by have h9 := minusC w1 a b j k (hI.atB ha) (hI.atB hb) haa haar haaf hbb hbbr hbbf (fun _ => ⟨by omega, Nat.lt_of_le_of_lt (pr_order_le va vb hv) (by omega)⟩); rw [opV_ok he, he, hM] at h9; exact h9)
  refine TO.loud rfl (l_call ent25 (CallT.of_pure hk15) rfl ?_)
  clear hk15
  rintro vr O' ⟨N, rfl, k', rfl, rfl⟩
  refine TO.quiet (q_move rfl) (TO.quiet (q_extract (vs := _) rfl rfl) (TO.quiet (q_extract (vs := _) rfl rfl) ?_))
  refine TO.loud rfl (l_alloc inf25 rfl (fun z3 => ?_))
  refine TO.loud rfl (l_store_box (v := (dV M k')) (vs := (dC M k')) 0 inf25 rfl rfl rfl rfl rfl rfl (by simp [putL]) ?_)
  refine TO.quiet (q_assign rfl) ?_
  refine TO.nil (T.seq (T.seq (T.region ?_)))
  refine TO.quiet (q_move rfl) (TO.quiet (q_neq rfl rfl) ?_)
  refine TO.nil ?_
  refine T.cond0 rfl ?_
  refine T.skip (T.seq ?_)
  refine T.sub (O' := [dI 52 4 3 M k', oI z3 25 (dC M k'), oI z2 25 (dC b k), oI z1 25 (dC a j)]) (by exact Sub.pull [oI z3 25 (dC M k')] _ (.k (.k (.k .z)))) ?_
  refine T.unpack (fun hqs => ?_)
  refine T.sub (O' := ([rowI k'.nb k'.nc 52 1 (vals k'.qs), rowI k'.fb k'.fc 4 1 (bools M.final), oI z3 25 (dC M k'), oI z2 25 (dC b k), oI z1 25 (dC a j)] ++ itms 3 k'.qs)) (by exact Sub.swap3 [rowI k'.nb k'.nc 52 1 (vals k'.qs), rowI k'.fb k'.fc 4 1 (bools M.final)] [oI z3 25 (dC M k'), oI z2 25 (dC b k), oI z1 25 (dC a j)] (itms 3 k'.qs)) ?_
  refine T.region ?_
  refine TO.quiet (q_fieldAddr Tryd.underlying25 rfl inf22 rfl rfl) (TO.quiet (q_load_box 2 Tryd.underlying22 rfl rfl rfl rfl) (TO.quiet (QT.cast (q_len Tryd.underlying22 rfl) (v' := .int .i64 ((m : Nat) : Int)) (by rw [hm])) (TO.quiet (q_assign rfl) ?_)))
  refine TO.nil (T.seq (T.region ?_))
  refine TO.quiet (q_fieldAddr Tryd.underlying25 rfl inf3 rfl rfl) (TO.quiet (q_load_box 2 Tryd.underlying3 rfl rfl rfl rfl) (TO.quiet (QT.cast (q_shl1 (v := M.vars.toNat) rfl (by show Value.int _ M.vars = _; rw [Int.toNat_of_nonneg vM.v0]) (by have := vM.v6; omega)) (v' := .int .i64 ((L : Nat) : Int)) (by rw [hL])) ?_))
  refine TO.loud rfl (l_makeSlice (m := L) Tryd.underlying52 inf3 rfl rfl (by omega) (by omega) (fun z4 => ?_))
  refine TO.quiet (q_assign rfl) ?_
  refine TO.nil (T.seq (T.seq (T.region ?_)))
  refine TO.quiet (q_move rfl) (TO.quiet (q_len Tryd.underlying52 rfl) (TO.quiet (q_move rfl) ?_))
  refine TO.nil (T.block ?_)
  refine T.loop (fun (x : Nat) ρ O => ∃ (ys : List Int), O = ([rowI (some ⟨z4, 0, none⟩) L 3 1 (ints ys), rowI k'.nb k'.nc 52 1 (vals k'.qs), rowI k'.fb k'.fc 4 1 (bools M.final), oI z3 25 (dC M k'), oI z2 25 (dC b k), oI z1 25 (dC a j)] ++ (itms 3 k'.qs)) ∧ x ≤ L ∧ ys.length = L ∧ (∀ y, y < x → ys[y]? = some (m : Int)) ∧ Heads [(0, (dV a j)), (1, (dV b k)), (2, (.pointer (some ⟨z1, 0, none⟩))), (3, (.pointer (some ⟨z2, 0, none⟩))), (4, (.slice none 0 0)), (5, .bool false), (6, .int .i64 0), (7, (.pointer (some ⟨z3, 0, none⟩))), (8, .int .i64 ((m : Nat) : Int)), (9, (.slice (some ⟨z4, 0, none⟩) L L)), (29, .int .i64 (L : Int)), (30, .int .i64 ((x : Nat) : Int))] ρ) (fun x => L - x) 0 ?_ ?_
  · refine ⟨List.replicate L 0, ?_, Nat.zero_le _, by simp, fun y hy9 => absurd hy9 (by omega), ⟨rfl, rfl, rfl, rfl, rfl, rfl, rfl, rfl, rfl, rfl, rfl, rfl, trivial⟩⟩
    rw [show List.replicate L (Value.int .i64 0) = ints (List.replicate L 0) by simp]; rfl
  rintro x ρ O ⟨ys, rfl, hx, hyl, hys, hH⟩
  obtain ⟨ρ0, rfl⟩ := hH.elim
  clear hH
  refine T.seq (T.region ?_)
  refine TO.quiet (q_lss rfl rfl) ?_
  refine TO.nil (T.seq ?_)
  refine T.condP rfl (fun hc => ?_) (fun hc => ?_)
  · have hlt31 : x < L := by omega
    refine T.skip (T.seq (T.block (T.seq (T.region ?_))))
    refine TO.quiet (q_move rfl) (TO.quiet (q_assign rfl) ?_)
    refine TO.nil (T.region ?_)
    refine TO.quiet (q_move rfl) (TO.quiet (q_move rfl) (TO.quiet (q_move rfl) (TO.quiet (q_ix (i := x) Tryd.underlying52 inf3 rfl rfl (rowO (List.mem_of_getElem? (i := 0) rfl))) ?_)))
    refine TO.loud rfl (l_st (j := x) (v := .int .i64 ((m : Nat) : Int)) (vs := [(.int .i64 ((m : Nat) : Int))]) (cs := ints ys) 0 inf3 rfl rfl rfl rfl rfl (by simp) rfl (by first | (simp; omega) | (simp_all; omega)) ?_)
    refine TO.sub (O' := ([rowI (some ⟨z4, 0, none⟩) L 3 1 (ints (ys.set x (m : Int))), rowI k'.nb k'.nc 52 1 (vals k'.qs), rowI k'.fb k'.fc 4 1 (bools M.final), oI z3 25 (dC M k'), oI z2 25 (dC b k), oI z1 25 (dC a j)] ++ (itms 3 k'.qs))) (by rw [show putL (ints ys) x [(.int .i64 ((m : Nat) : Int))] = ints (ys.set x (m : Int)) from by simp [putL]]; exact Sub.of (List.Sublist.refl _)) ?_
    refine TO.nil (T.region ?_)
    refine TO.quiet (q_addN (a := x) (b := 1) rfl rfl (by omega)) (TO.quiet (q_move rfl) ?_)
    refine TO.nil ?_
    refine ⟨x + 1, by omega, ys.set x (m : Int), rfl, by omega, by simp [hyl], fun y hy9 => ?_, ⟨rfl, rfl, rfl, rfl, rfl, rfl, rfl, rfl, rfl, rfl, rfl, rfl, trivial⟩⟩
    by_cases e : y = x
    · subst e; rw [List.getElem?_set_self (by omega)]
    · rw [List.getElem?_set_ne (fun h => e h.symm)]; exact hys y (by omega)
  have hge31 : ¬ x < L := by omega
  refine T.exit ?_
  refine T.cut (fun ρ O => ∃ (nb2 : Option Addr) (nc2 : Nat) (fb2 : Option Addr) (fc2 : Nat), O = ([rowI (some ⟨z4, 0, none⟩) L 3 1 (ints ys), rowI nb2 nc2 52 1 ((vals k'.qs) ++ [(.slice (some ⟨z4, 0, none⟩) L L)]), rowI fb2 fc2 4 1 ((bools M.final) ++ [.bool false]), oI z3 25 [(.int .i64 M.vars), (.int .i64 M.start), (.slice nb2 (M.next.length + 1) nc2), (.slice fb2 (M.final.length + 1) fc2)], oI z2 25 (dC b k), oI z1 25 (dC a j)] ++ (itms 3 k'.qs)) ∧ Heads [(0, (dV a j)), (1, (dV b k)), (2, (.pointer (some ⟨z1, 0, none⟩))), (3, (.pointer (some ⟨z2, 0, none⟩))), (4, (.slice none 0 0)), (5, .bool false), (6, .int .i64 0), (7, (.pointer (some ⟨z3, 0, none⟩))), (8, .int .i64 ((m : Nat) : Int)), (9, (.slice (some ⟨z4, 0, none⟩) L L))] ρ) ?_ ?_
  · refine T.treeT [oI z3 25 (dC M k'), oI z2 25 (dC b k), oI z1 25 (dC a j)] [10, 12] 13 mixed rfl (by exact Sub.d (.d (.d (.k (.k (.k .z)))))) (fun _ _ _ h => h) ?_
    refine RO.quietTT 0 rfl (by kernel_rfl) (q_fieldAddr Tryd.underlying25 rfl inf22 rfl rfl) ?_
    refine RO.quietTT 1 rfl (by kernel_rfl) (q_load_box 0 Tryd.underlying22 rfl rfl rfl rfl) ?_
    refine RO.quietTT 2 rfl (by kernel_rfl) (q_move rfl) ?_
    refine RO.quietTT 5 rfl (by kernel_rfl) (q_fieldAddr Tryd.underlying25 rfl inf23 rfl rfl) ?_
    refine RO.quietTT 6 rfl (by kernel_rfl) (q_load_box 0 Tryd.underlying23 rfl rfl rfl rfl) ?_
    refine RO.forkT [3, 7] (by kernel_rfl) rfl ⟨⟨_, rfl, rfl, l_build1 (v := (.slice (some ⟨z4, 0, none⟩) L L)) Tryd.underlying22 inf52 rfl rfl rfl (fun tr => ⟨.inr (by exact Sub.d (.d (.d (.d (.k (.k (.k .z))))))), ?_⟩)⟩, ⟨_, rfl, rfl, l_build1 (v := .bool false) Tryd.underlying23 inf4 rfl rfl rfl (fun tf => ⟨.inr (by exact Sub.d (.d (.d (.d (.k (.k (.k .z))))))), ?_⟩)⟩, trivial⟩ (by kernel_rfl)
    · refine RO.forkT [4, 7] (by kernel_rfl) rfl ⟨⟨_, rfl, rfl, l_append 2 Tryd.underlying22 Tryd.underlying22 inf52 rfl rfl rfl rfl (by rw [List.length_map]; have := congrArg List.length hqs; simpa using this) (by decide) (Src.row (j := 0) rfl (by simp)) (by simp [oneB]) (by omega) (by decide) (by decide) (fun nb2 nc2 => ⟨.inr (by exact Sub.d (.d (.d (.d (.k (.k (.k .z))))))), ?_⟩)⟩, ⟨_, rfl, rfl, l_build1 (v := .bool false) Tryd.underlying23 inf4 rfl rfl rfl (fun tf => ⟨.inr (by exact Sub.d (.d (.d (.d (.d (.k (.k (.k .z)))))))), ?_⟩)⟩, trivial⟩ (by kernel_rfl)
      · refine RO.quietTT 9 rfl (by kernel_rfl) (q_fieldAddr Tryd.underlying25 rfl inf22 rfl rfl) ?_
        refine RO.forkT [7] (by kernel_rfl) rfl ⟨⟨_, rfl, rfl, l_build1 (v := .bool false) Tryd.underlying23 inf4 rfl rfl rfl (fun tf => ⟨.inr (by exact Sub.d (.d (.d (.d (.d (.k (.k (.k .z)))))))), ?_⟩)⟩, trivial⟩ (by kernel_rfl)
        refine RO.forkT [8] (by kernel_rfl) rfl ⟨⟨_, rfl, rfl, l_append 4 Tryd.underlying23 Tryd.underlying23 inf4 rfl rfl rfl rfl (by simp) (by decide) (Src.row (j := 0) rfl (by simp)) (by simp [oneB]) (by omega) (by decide) (by decide) (fun fb2 fc2 => ⟨.inr (by exact Sub.d (.d (.d (.d (.d (.k (.k (.k .z)))))))), ?_⟩)⟩, trivial⟩ (by kernel_rfl)
        refine RO.forkT [10] (by kernel_rfl) rfl ⟨⟨_, rfl, rfl, l_store_box (v := (.slice nb2 (M.next.length + 1) nc2)) (vs := [(.slice nb2 (M.next.length + 1) nc2)]) 5 inf22 rfl rfl rfl rfl rfl rfl (by simp [putL]) ⟨.inl (by decide), ?_⟩⟩, trivial⟩ (by kernel_rfl)
        refine RO.quietE 11 rfl (by kernel_rfl) (q_fieldAddr Tryd.underlying25 rfl inf23 rfl rfl) ?_
        refine RO.forkT [12] (by kernel_rfl) rfl ⟨⟨_, rfl, rfl, l_store_box (v := (.slice fb2 (M.final.length + 1) fc2)) (vs := [(.slice fb2 (M.final.length + 1) fc2)]) 5 inf23 rfl rfl rfl rfl rfl rfl (by simp [putL]) ⟨.inl (by decide), ?_⟩⟩, trivial⟩ (by kernel_rfl)
        exact RO.fin (by kernel_rfl) ⟨nb2, nc2, fb2, fc2, rfl, ⟨rfl, rfl, rfl, rfl, rfl, rfl, rfl, rfl, rfl, rfl, trivial⟩⟩ (by exact Sub.d (.d (.k (.k (.k (.k (.k (.k .rf))))))))
      refine RO.forkT [4] (by kernel_rfl) rfl ⟨⟨_, rfl, rfl, l_append 3 Tryd.underlying22 Tryd.underlying22 inf52 rfl rfl rfl rfl (by rw [List.length_map]; have := congrArg List.length hqs; simpa using this) (by decide) (Src.row (j := 1) rfl (by simp)) (by simp [oneB]) (by omega) (by decide) (by decide) (fun nb2 nc2 => ⟨.inr (by exact Sub.d (.d (.d (.d (.d (.k (.k (.k .z)))))))), ?_⟩)⟩, trivial⟩ (by kernel_rfl)
      refine RO.quietTT 9 rfl (by kernel_rfl) (q_fieldAddr Tryd.underlying25 rfl inf22 rfl rfl) ?_
      refine RO.forkT [8] (by kernel_rfl) rfl ⟨⟨_, rfl, rfl, l_append 4 Tryd.underlying23 Tryd.underlying23 inf4 rfl rfl rfl rfl (by simp) (by decide) (Src.row (j := 0) rfl (by simp)) (by simp [oneB]) (by omega) (by decide) (by decide) (fun fb2 fc2 => ⟨.inr (by exact Sub.d (.d (.d (.d (.d (.k (.k (.k .z)))))))), ?_⟩)⟩, trivial⟩ (by kernel_rfl)
      refine RO.forkT [10] (by kernel_rfl) rfl ⟨⟨_, rfl, rfl, l_store_box (v := (.slice nb2 (M.next.length + 1) nc2)) (vs := [(.slice nb2 (M.next.length + 1) nc2)]) 5 inf22 rfl rfl rfl rfl rfl rfl (by simp [putL]) ⟨.inl (by decide), ?_⟩⟩, trivial⟩ (by kernel_rfl)
      refine RO.quietE 11 rfl (by kernel_rfl) (q_fieldAddr Tryd.underlying25 rfl inf23 rfl rfl) ?_
      refine RO.forkT [12] (by kernel_rfl) rfl ⟨⟨_, rfl, rfl, l_store_box (v := (.slice fb2 (M.final.length + 1) fc2)) (vs := [(.slice fb2 (M.final.length + 1) fc2)]) 5 inf23 rfl rfl rfl rfl rfl rfl (by simp [putL]) ⟨.inl (by decide), ?_⟩⟩, trivial⟩ (by kernel_rfl)
      exact RO.fin (by kernel_rfl) ⟨nb2, nc2, fb2, fc2, rfl, ⟨rfl, rfl, rfl, rfl, rfl, rfl, rfl, rfl, rfl, rfl, trivial⟩⟩ (by exact Sub.d (.d (.k (.k (.k (.k (.k (.k .rf))))))))
    refine RO.forkT [3] (by kernel_rfl) rfl ⟨⟨_, rfl, rfl, l_build1 (v := (.slice (some ⟨z4, 0, none⟩) L L)) Tryd.underlying22 inf52 rfl rfl rfl (fun tr => ⟨.inr (by exact Sub.d (.d (.d (.d (.d (.k (.k (.k .z)))))))), ?_⟩)⟩, trivial⟩ (by kernel_rfl)
    refine RO.forkT [4] (by kernel_rfl) rfl ⟨⟨_, rfl, rfl, l_append 3 Tryd.underlying22 Tryd.underlying22 inf52 rfl rfl rfl rfl (by rw [List.length_map]; have := congrArg List.length hqs; simpa using this) (by decide) (Src.row (j := 0) rfl (by simp)) (by simp [oneB]) (by omega) (by decide) (by decide) (fun nb2 nc2 => ⟨.inr (by exact Sub.d (.d (.d (.d (.d (.k (.k (.k .z)))))))), ?_⟩)⟩, trivial⟩ (by kernel_rfl)
    refine RO.quietTT 9 rfl (by kernel_rfl) (q_fieldAddr Tryd.underlying25 rfl inf22 rfl rfl) ?_
    refine RO.forkT [8] (by kernel_rfl) rfl ⟨⟨_, rfl, rfl, l_append 4 Tryd.underlying23 Tryd.underlying23 inf4 rfl rfl rfl rfl (by simp) (by decide) (Src.row (j := 1) rfl (by simp)) (by simp [oneB]) (by omega) (by decide) (by decide) (fun fb2 fc2 => ⟨.inr (by exact Sub.d (.d (.d (.d (.d (.k (.k (.k .z)))))))), ?_⟩)⟩, trivial⟩ (by kernel_rfl)
    refine RO.forkT [10] (by kernel_rfl) rfl ⟨⟨_, rfl, rfl, l_store_box (v := (.slice nb2 (M.next.length + 1) nc2)) (vs := [(.slice nb2 (M.next.length + 1) nc2)]) 5 inf22 rfl rfl rfl rfl rfl rfl (by simp [putL]) ⟨.inl (by decide), ?_⟩⟩, trivial⟩ (by kernel_rfl)
    refine RO.quietE 11 rfl (by kernel_rfl) (q_fieldAddr Tryd.underlying25 rfl inf23 rfl rfl) ?_
    refine RO.forkT [12] (by kernel_rfl) rfl ⟨⟨_, rfl, rfl, l_store_box (v := (.slice fb2 (M.final.length + 1) fc2)) (vs := [(.slice fb2 (M.final.length + 1) fc2)]) 5 inf23 rfl rfl rfl rfl rfl rfl (by simp [putL]) ⟨.inl (by decide), ?_⟩⟩, trivial⟩ (by kernel_rfl)
    exact RO.fin (by kernel_rfl) ⟨nb2, nc2, fb2, fc2, rfl, ⟨rfl, rfl, rfl, rfl, rfl, rfl, rfl, rfl, rfl, rfl, trivial⟩⟩ (by exact Sub.d (.d (.k (.k (.k (.k (.k (.k .rf))))))))
  rintro ρ O ⟨nb2, nc2, fb2, fc2, rfl, hH⟩
  obtain ⟨ρ0, rfl⟩ := hH.elim
  clear hH
  refine T.seq (T.seq ?_)
  have hye : ys = List.replicate (2 ^ M.vars.toNat) (m : Int) := by
    apply List.ext_getElem?
    intro y
    by_cases hy9 : y < L
    · rw [hys y (by omega), List.getElem?_replicate, if_pos (by rw [hL]; exact hy9)]
    · rw [List.getElem?_eq_none (by omega), List.getElem?_eq_none (by rw [List.length_replicate, hL]; omega)]
  have hvq : vals (k'.qs ++ [⟨some ⟨z4, 0, none⟩, L, ys⟩]) = vals k'.qs ++ [(.slice (some ⟨z4, 0, none⟩) L L)] := by simp [Rec.val, hyl]
  have hbq : bools (sinkD M).final = bools M.final ++ [.bool false] := by simp [sinkD]
  have hnq : nums (k'.qs ++ [⟨some ⟨z4, 0, none⟩, L, ys⟩]) = (sinkD M).next := by
    show List.map Rec.xs (k'.qs ++ [_]) = _
    rw [List.map_append, show List.map Rec.xs k'.qs = _ from hqs]; show _ ++ [ys] = _; rw [hye, ← hm]; rfl
  obtain ⟨z9, hz9⟩ : ∃ z : DK, z = ⟨nb2, nc2, fb2, fc2, k'.qs ++ [⟨some ⟨z4, 0, none⟩, L, ys⟩]⟩ := ⟨_, rfl⟩
  obtain ⟨W, hW⟩ : ∃ W, W = sinkD M := ⟨_, rfl⟩
  have vW : Valid W := hW ▸ vS
  have hWl : W.next.length = M.next.length + 1 := by rw [hW, sinkD_len]
  refine T.sub (O' := ([rowI nb2 nc2 52 1 ((vals k'.qs) ++ [(.slice (some ⟨z4, 0, none⟩) L L)]), rowI fb2 fc2 4 1 ((bools M.final) ++ [.bool false]), rowI (some ⟨z4, 0, none⟩) L 3 1 (ints ys), oI z3 25 [(.int .i64 M.vars), (.int .i64 M.start), (.slice nb2 (M.next.length + 1) nc2), (.slice fb2 (M.final.length + 1) fc2)], oI z2 25 (dC b k), oI z1 25 (dC a j)] ++ itms 3 k'.qs)) (by exact Sub.pull [rowI (some ⟨z4, 0, none⟩) L 3 1 (ints ys)] _ (.pull [rowI (some ⟨z4, 0, none⟩) L 3 1 (ints ys)] _ (.k (.k (.k (.k .rf)))))) ?_
  refine T.sub (O' := (([rowI nb2 nc2 52 1 (vals (k'.qs ++ [⟨some ⟨z4, 0, none⟩, L, ys⟩])), rowI fb2 fc2 4 1 (bools (sinkD M).final)] ++ itms 3 (k'.qs ++ [⟨some ⟨z4, 0, none⟩, L, ys⟩])) ++ [oI z3 25 [(.int .i64 (sinkD M).vars), (.int .i64 (sinkD M).start), (.slice nb2 ((sinkD M).next.length) nc2), (.slice fb2 ((sinkD M).final.length) fc2)], oI z2 25 (dC b k), oI z1 25 (dC a j)])) (by rw [hvq, hbq, show (sinkD M).next.length = M.next.length + 1 from sinkD_len _, show (sinkD M).final.length = M.final.length + 1 from sinkD_flen _]; exact Sub.fold [rowI nb2 nc2 52 1 ((vals k'.qs) ++ [(.slice (some ⟨z4, 0, none⟩) L L)]), rowI fb2 fc2 4 1 ((bools M.final) ++ [.bool false])] (rowI (some ⟨z4, 0, none⟩) L 3 1 (ints ys)) [oI z3 25 [(.int .i64 M.vars), (.int .i64 M.start), (.slice nb2 (M.next.length + 1) nc2), (.slice fb2 (M.final.length + 1) fc2)], oI z2 25 (dC b k), oI z1 25 (dC a j)] (itms 3 k'.qs) _ (itms_snoc 3 k'.qs ⟨some ⟨z4, 0, none⟩, L, ys⟩)) ?_
  refine T.pack (φ := nums (k'.qs ++ [⟨some ⟨z4, 0, none⟩, L, ys⟩]) = (sinkD M).next) hnq ?_
  refine T.sub (O' := [dI 52 4 3 W z9, oI z3 25 (dC W z9), oI z2 25 (dC b k), oI z1 25 (dC a j)]) (by subst hz9; subst hW; exact Sub.rf) ?_
  refine T.region ?_
  refine TO.quiet (q_fieldAddr Tryd.underlying25 rfl inf22 rfl rfl) (TO.quiet (q_load_box 1 Tryd.underlying22 rfl rfl rfl rfl) (TO.quiet (q_len Tryd.underlying22 rfl) (TO.quiet (QT.toB (q_gtr rfl rfl) (decide_eq_false (by omega))) ?_)))
  refine TO.nil ?_
  refine T.cond0 rfl ?_
  refine T.skip (T.seq (T.region ?_))
  refine TO.quiet (q_load_boxAgg 1 Tryd.underlying25 rfl inf25 rfl rfl rfl) (TO.quiet (q_fieldAddr Tryd.underlying25 rfl inf3 rfl rfl) (TO.quiet (q_load_box 1 Tryd.underlying3 rfl rfl rfl rfl) (TO.quiet (q_move rfl) ?_)))
  have hk60 := fun (w1 : World) (hI : Inv w [dI 52 4 3 W z9, oI z3 25 (dC W z9), oI z2 25 (dC b k), oI z1 25 (dC a j)] w1) => distA w1 W z9.nb z9.fb z9.nc z9.fc (vals z9.qs) (hI.at (k := z9) (List.mem_of_getElem? (i := 0) rfl)) (by have := vW.n4; omega) vW.bound (by have := vW.fin; have := vW.n4; omega) (fun _ => by omega) W.start (m : Int)
  refine TO.loud rfl (l_call ent61 (CallT.of_pure hk60) rfl ?_)
  clear hk60
  rintro vr O' ⟨N, rfl, res, wb, wc, hT, rfl, rfl⟩
  refine TO.quiet (q_move rfl) (TO.quiet (q_extract (vs := _) rfl rfl) (TO.quiet (q_extract (vs := _) rfl rfl) (TO.quiet (q_extract (vs := _) rfl rfl) ?_)))
  refine TO.quiet (q_assign rfl) (TO.quiet (q_assign rfl) (TO.quiet (q_assign rfl) ?_))
  refine TO.nil (T.seq (T.region ?_))
  refine TO.quiet (q_move rfl) (TO.quiet (q_move rfl) (TO.quiet (q_not rfl) (TO.quiet (q_move rfl) ?_)))
  refine TO.quiet (q_assign rfl) (TO.quiet (q_assign rfl) (TO.quiet (q_assign rfl) ?_))
  refine TO.nil (T.ret (Res.drop ?_))
  refine Res.three (.slice wb ((res.getD []).length) wc) (.bool (!res.isSome)) (.int .i64 (eD W W.start (m : Int) : Int)) Tryd.results26 rfl rfl rfl ?_
  subst hW
  have e0 : eD (sinkD M) (sinkD M).start (m : Int) = 0 := by rw [← hm]; exact sink_eD vM (by omega)
  exact ⟨[rowI wb wc 5 1 (byts (res.getD []))], (by exact Sub.k .z), res, wb, wc, (InclA.ok he).2 (hM.symm ▸ sink_least vM (by omega) (by rw [hm]; exact hT)), by rw [e0]; rfl, rfl⟩
theorem inclC (w : World) (a b : DFA) (j k : DK) (ha : At w a j) (hb : At w b k) (haa : a.next.length < 9223372036854775807) (haar : ∀ r ∈ a.next, r.length < 9223372036854775807) (haaf : a.final.length < 9223372036854775807) (hbb : b.next.length < 9223372036854775807) (hbbr : ∀ r ∈ b.next, r.length < 9223372036854775807) (hbbf : b.final.length < 9223372036854775807) (hn : wrongD a b = 0 → a.next.length * b.next.length ≤ 64) :
    PureT Tryd.prog 26 [dV a j, dV b k] w fun v N => ∃ res wb wc, InclA a b res ∧ v = .tuple #[.slice wb (res.getD []).length wc, .bool (decide (wrongD a b = 0) && !res.isSome), .int .i64 (wrongD a b : Int)] ∧ N = [rowI wb wc 5 1 (byts (res.getD []))] := by
  by_cases he : wrongD a b = 0
  · refine (inclOk w a b j k ha hb haa haar haaf hbb hbbr hbbf he (hn he)).mono ?_
    rintro v N ⟨res, wb, wc, h1, rfl, rfl⟩
    exact ⟨res, wb, wc, h1, by rw [he]; rfl, rfl⟩
  · refine (CallT.addNil 5 1 (inclBad w a b j k ha hb haa haar haaf hbb hbbr hbbf he)).mono ?_
    rintro v N ⟨O2, rfl, rfl, rfl⟩
    exact ⟨none, none, 0, by unfold InclA; rw [if_neg he], by rw [decide_eq_false he]; rfl, rfl⟩
end Go.Proofs.YtdaapdamcekkgaaDoor

namespace Go.Proofs.YtdaapdamcekkgaaDoor
open Go.Lx Go.RowKit
set_option linter.unusedVariables false
set_option linter.unusedSimpArgs false
set_option maxHeartbeats 1000000 in
set_option maxRecDepth 20000 in
theorem refAllC (w : World) (n : Int) (L : List DRec) (b : Option Addr) (c : Nat) (hS : Sl w b (dcells L)) (hD : ∀ r ∈ L, DfaAt w r.d r.nb r.vs r.fb) (hB : ∀ r ∈ L, r.d.next.length < 9223372036854775807 ∧ (∀ x ∈ r.d.next, x.length < 9223372036854775807) ∧ r.d.final.length < 9223372036854775807) (hL : L.length < 1000) (hA : 0 ≤ n → n ≤ 6 → AllOk (stayD n true) (L.map DRec.d)) :
    PureT Tryd.prog 31 [.int .i64 n, .slice b L.length c] w fun v N => ∃ k' : DK, v = .tuple #[dV (allV n (L.map DRec.d)).1 k', .int .i64 ((allV n (L.map DRec.d)).2 : Int)] ∧ N = [dI 52 4 3 (allV n (L.map DRec.d)).1 k'] := by
  refine CallT.enter Tryd.func31 rfl Tryd.ntmps31 rfl ?_
  refine T.seq (T.region ?_)
  refine TO.loud rfl (l_alloc inf25 rfl (fun z1 => ?_))
  refine TO.quiet (q_assign rfl) ?_
  refine TO.nil (T.seq (T.seq (T.region ?_)))
  refine TO.quiet (q_move rfl) ?_
  by_cases h06 : 0 ≤ n ∧ n ≤ 6
  · have hk11 := fun (w1 : World) (hI : Inv w [oI z1 25 [(.int .i64 0), (.int .i64 0), (.slice none 0 0), (.slice none 0 0)]] w1) => varsF w1 n
    refine TO.loud rfl (l_call ent64 (CallT.of_pure hk11) rfl ?_)
    clear hk11
    rintro vr O' ⟨N, rfl, rfl, rfl⟩
    rw [decide_eq_true h06]
    refine TO.quiet (q_not rfl) ?_
    refine TO.nil ?_
    refine T.cond0 rfl ?_
    refine T.skip (T.seq ?_)
    obtain ⟨h0, h6⟩ := h06
    refine T.region ?_
    refine TO.quiet (q_move rfl) ?_
    have hk15 := fun (w1 : World) (hI : Inv w [oI z1 25 [(.int .i64 0), (.int .i64 0), (.slice none 0 0), (.slice none 0 0)]] w1) => everyC w1 n h0 h6
    refine TO.loud rfl (l_call ent65 (CallT.of_pure hk15) rfl ?_)
    clear hk15
    rintro vr O' ⟨N, rfl, k0, rfl, rfl⟩
    refine TO.loud rfl (l_alloc inf25 rfl (fun z2 => ?_))
    refine TO.loud rfl (l_store_box (v := (dV (stayD n true) k0)) (vs := (dC (stayD n true) k0)) 0 inf25 rfl rfl rfl rfl rfl rfl (by simp [putL]) ?_)
    refine TO.nil (T.seq (T.seq (T.region ?_)))
    refine TO.quiet (q_assign rfl) ?_
    refine TO.nil (T.block ?_)
    obtain ⟨d0, hd0⟩ : ∃ d, d = stayD n true := ⟨_, rfl⟩
    have v0 : Valid d0 := hd0 ▸ stay_valid h0 h6 true
    have hA0 : AllOk d0 (L.map DRec.d) := hd0 ▸ hA h0 h6
    refine T.sub (O' := [dI 52 4 3 d0 k0, oI z2 25 (dC d0 k0), oI z1 25 [(.int .i64 0), (.int .i64 0), (.slice none 0 0), (.slice none 0 0)]]) (by subst hd0; exact Sub.pull [oI z2 25 (dC (stayD n true) k0)] _ (.k (.k .z))) ?_
    refine T.loopS (fun (i : Nat) ρ O => ∃ (d : DFA) (kd : DK), O = [dI 52 4 3 d kd, oI z2 25 (dC d kd), oI z1 25 [(.int .i64 0), (.int .i64 0), (.slice none 0 0), (.slice none 0 0)]] ∧ i ≤ L.length ∧ Valid d ∧ allR (stayD n true) (L.map DRec.d) = allR d ((L.map DRec.d).drop i) ∧ AllOk d ((L.map DRec.d).drop i) ∧ Heads [(0, .int .i64 n), (1, (.slice b L.length c)), (4, (.pointer (some ⟨z1, 0, none⟩))), (6, (.pointer (some ⟨z2, 0, none⟩))), (7, .int .i64 ((i : Nat) : Int))] ρ) (fun i => L.length - i) 0 ?_ ?_
    · exact ⟨d0, k0, rfl, Nat.zero_le _, v0, by rw [hd0]; rfl, hA0, ⟨rfl, rfl, rfl, rfl, rfl, trivial⟩⟩
    rintro i ρ O ⟨d, kd, rfl, hi, vd, hall, hok, hH⟩
    obtain ⟨ρ0, rfl⟩ := hH.elim
    clear hH
    refine T.seq (T.seq (T.region ?_))
    refine TO.quiet (q_move rfl) (TO.quiet (q_move rfl) (TO.quiet (q_len Tryd.underlying48 rfl) (TO.quiet (q_lss rfl rfl) ?_)))
    refine TO.nil ?_
    refine T.condP rfl (fun hc => ?_) (fun hc => ?_)
    · have hlt19 : i < L.length := by omega
      have hmem := List.getElem_mem hlt19
      obtain ⟨kx, hAx, hkx⟩ := (hD _ hmem).dk L[i].nc L[i].fc
      obtain ⟨hB1, hB2, hB3⟩ := hB _ hmem
      refine T.skip (T.seq (T.block ?_))
      refine T.cut (fun ρ O => ∃ (b8 : Nat) (k' : DK), O = [oI b8 25 [(.int .i64 (opV andB d L[i].d).vars), (.int .i64 (opV andB d L[i].d).start), (.slice k'.nb ((opV andB d L[i].d).next.length) k'.nc), (.slice k'.fb ((opV andB d L[i].d).final.length) k'.fc)], dI 52 4 3 (opV andB d L[i].d) k', dI 52 4 3 d kd, oI z2 25 (dC d kd), oI z1 25 [(.int .i64 0), (.int .i64 0), (.slice none 0 0), (.slice none 0 0)]] ∧ Heads [(0, .int .i64 n), (1, (.slice b L.length c)), (4, (.pointer (some ⟨z1, 0, none⟩))), (6, (.pointer (some ⟨z2, 0, none⟩))), (7, .int .i64 ((i : Nat) : Int)), (8, (.pointer (some ⟨b8, 0, none⟩))), (9, .int .i64 (wrongD d L[i].d : Int))] ρ) ?_ ?_
      · refine T.treeT [dI 52 4 3 d kd, oI z2 25 (dC d kd), oI z1 25 [(.int .i64 0), (.int .i64 0), (.slice none 0 0), (.slice none 0 0)]] [10] 12 mixed rfl (by exact Sub.rf) (fun _ _ _ h => h) ?_
        refine RO.quietTT 0 rfl (by kernel_rfl) (q_load_boxAgg 1 Tryd.underlying25 rfl inf25 rfl rfl rfl) ?_
        refine RO.quietTT 1 rfl (by kernel_rfl) (q_move rfl) ?_
        refine RO.quietTT 2 rfl (by kernel_rfl) (q_move rfl) ?_
        refine RO.quietTT 3 rfl (by kernel_rfl) (q_ixK (i := i) Tryd.underlying48 inf25 rfl rfl (Sl.o hS) hlt19 (by rw [dcells_len]; omega)) ?_
        refine RO.quietTT 4 rfl (by kernel_rfl) (q_ldK (vs := [(.int .i64 L[i].d.vars), (.int .i64 L[i].d.start), (.slice kx.nb L[i].d.next.length kx.nc), (.slice kx.fb L[i].d.final.length kx.fc)]) Tryd.underlying25 rfl inf25 rfl rfl (Nat.succ_pos _) (Sl.o hS) (fun j hj => by rw [dcells_get hlt19 hj, show L[i].cells = dC L[i].d kx from hkx]; exact List.getElem?_eq_getElem hj)) ?_
        have hk28 := fun (w1 : World) (hI : Inv w [dI 52 4 3 d kd, oI z2 25 (dC d kd), oI z1 25 [(.int .i64 0), (.int .i64 0), (.slice none 0 0), (.slice none 0 0)]] w1) => (show PureT _ _ _ _ _ from by
            have h9 := refApC w1 0 d L[i].d kd kx (hI.at (k := kd) (List.mem_of_getElem? (i := 0) rfl)) (hI.atB hAx) (by have := vd.n4; omega) vd.bound (by have := vd.fin; have := vd.n4; omega) hB1 hB2 hB3 (fun hw => by
              have h64 := (AllOk.at (by rw [List.length_map]; exact hlt19) hok (by rw [List.getElem_map]; exact hw)).1
              rw [List.getElem_map] at h64
              omega)
            rw [show opB 0 = andB from rfl] at h9
            exact h9)
        refine RO.forkT [5, 9] (by kernel_rfl) rfl ⟨⟨_, rfl, rfl, l_call ent17 (CallT.of_pure hk28) rfl ?_⟩, ⟨_, rfl, rfl, l_alloc inf25 rfl (fun b8 => ⟨.inr (by exact Sub.d (.k (.k (.k .z)))), ?_⟩)⟩, trivial⟩ (by kernel_rfl)
        · clear hk28
          rintro vr O' ⟨N, rfl, k', rfl, rfl⟩
          refine ⟨.inr (by exact Sub.d (.k (.k (.k .z)))), ?_⟩
          refine RO.quietE 6 rfl (by kernel_rfl) (q_move rfl) ?_
          refine RO.quietE 7 rfl (by kernel_rfl) (q_extract (vs := _) rfl rfl) ?_
          refine RO.quietE 8 rfl (by kernel_rfl) (q_extract (vs := _) rfl rfl) ?_
          refine RO.forkT [9] (by kernel_rfl) rfl ⟨⟨_, rfl, rfl, l_alloc inf25 rfl (fun b8 => ⟨.inr (by exact Sub.d (.d (.k (.k (.k .z))))), ?_⟩)⟩, trivial⟩ (by kernel_rfl)
          refine RO.forkT [10] (by kernel_rfl) rfl ⟨⟨_, rfl, rfl, l_store_box (v := (.agg #[(.int .i64 (opV andB d L[i].d).vars), (.int .i64 (opV andB d L[i].d).start), (.slice k'.nb ((opV andB d L[i].d).next.length) k'.nc), (.slice k'.fb ((opV andB d L[i].d).final.length) k'.fc)])) (vs := [(.int .i64 (opV andB d L[i].d).vars), (.int .i64 (opV andB d L[i].d).start), (.slice k'.nb ((opV andB d L[i].d).next.length) k'.nc), (.slice k'.fb ((opV andB d L[i].d).final.length) k'.fc)]) 0 inf25 rfl rfl rfl rfl rfl rfl (by simp [putL]) ⟨.inl (by decide), ?_⟩⟩, trivial⟩ (by kernel_rfl)
          refine RO.quietE 11 rfl (by kernel_rfl) (q_assign rfl) ?_
          exact RO.fin (by kernel_rfl) ⟨b8, k', rfl, ⟨rfl, rfl, rfl, rfl, rfl, rfl, rfl, trivial⟩⟩ (by exact Sub.rf)
        have hk28 := fun (w1 : World) (hI : Inv w [oI b8 25 [(.int .i64 0), (.int .i64 0), (.slice none 0 0), (.slice none 0 0)], dI 52 4 3 d kd, oI z2 25 (dC d kd), oI z1 25 [(.int .i64 0), (.int .i64 0), (.slice none 0 0), (.slice none 0 0)]] w1) => (show PureT _ _ _ _ _ from by
            have h9 := refApC w1 0 d L[i].d kd kx (hI.at (k := kd) (List.mem_of_getElem? (i := 1) rfl)) (hI.atB hAx) (by have := vd.n4; omega) vd.bound (by have := vd.fin; have := vd.n4; omega) hB1 hB2 hB3 (fun hw => by
              have h64 := (AllOk.at (by rw [List.length_map]; exact hlt19) hok (by rw [List.getElem_map]; exact hw)).1
              rw [List.getElem_map] at h64
              omega)
            rw [show opB 0 = andB from rfl] at h9
            exact h9)
        refine RO.forkT [5] (by kernel_rfl) rfl ⟨⟨_, rfl, rfl, l_call ent17 (CallT.of_pure hk28) rfl ?_⟩, trivial⟩ (by kernel_rfl)
        clear hk28
        rintro vr O' ⟨N, rfl, k', rfl, rfl⟩
        refine ⟨.inr (by exact Sub.d (.d (.k (.k (.k .z))))), ?_⟩
        refine RO.quietE 6 rfl (by kernel_rfl) (q_move rfl) ?_
        refine RO.quietE 7 rfl (by kernel_rfl) (q_extract (vs := _) rfl rfl) ?_
        refine RO.quietE 8 rfl (by kernel_rfl) (q_extract (vs := _) rfl rfl) ?_
        refine RO.forkT [10] (by kernel_rfl) rfl ⟨⟨_, rfl, rfl, l_store_box (v := (.agg #[(.int .i64 (opV andB d L[i].d).vars), (.int .i64 (opV andB d L[i].d).start), (.slice k'.nb ((opV andB d L[i].d).next.length) k'.nc), (.slice k'.fb ((opV andB d L[i].d).final.length) k'.fc)])) (vs := [(.int .i64 (opV andB d L[i].d).vars), (.int .i64 (opV andB d L[i].d).start), (.slice k'.nb ((opV andB d L[i].d).next.length) k'.nc), (.slice k'.fb ((opV andB d L[i].d).final.length) k'.fc)]) 1 inf25 rfl rfl rfl rfl rfl rfl (by simp [putL]) ⟨.inl (by decide), ?_⟩⟩, trivial⟩ (by kernel_rfl)
        refine RO.quietE 11 rfl (by kernel_rfl) (q_assign rfl) ?_
        exact RO.fin (by kernel_rfl) ⟨b8, k', rfl, ⟨rfl, rfl, rfl, rfl, rfl, rfl, rfl, trivial⟩⟩ (by exact Sub.pull [dI 52 4 3 (opV andB d L[i].d) k'] _ (.k (.k (.k (.k .z)))))
      rintro ρ O ⟨b8, k', rfl, hH⟩
      obtain ⟨ρ0, rfl⟩ := hH.elim
      clear hH
      refine T.seq (T.seq (T.region ?_))
      refine TO.quiet (q_move rfl) (TO.quiet (q_neq rfl rfl) ?_)
      refine TO.nil ?_
      refine T.condP rfl (fun hc => ?_) (fun hc => ?_)
      · have hlt32 : wrongD d L[i].d ≠ 0 := by omega
        refine T.seq ?_
        refine T.nilD 52 4 3 ?_
        refine T.region ?_
        refine TO.quiet (q_build plan25 inf25 rfl) (TO.quiet (q_move rfl) ?_)
        refine TO.loud rfl (l_store_box (v := (.agg #[(.int .i64 0), (.int .i64 0), (.slice none 0 0), (.slice none 0 0)])) (vs := [(.int .i64 0), (.int .i64 0), (.slice none 0 0), (.slice none 0 0)]) 5 inf25 rfl rfl rfl rfl rfl rfl (by simp [putL]) ?_)
        refine TO.quiet (q_assign rfl) ?_
        refine TO.nil (T.ret (Res.drop ?_))
        refine Res.cell1b (.int .i64 (wrongD d L[i].d : Int)) (i := 5) Tryd.results31 Tryd.underlying25 rfl inf25 rfl rfl rfl rfl ?_
        have e9 : allV n (L.map DRec.d) = (noD, wrongD d L[i].d) := by
          unfold allV
          rw [if_pos ⟨h0, h6⟩, hall, allR_at (by rw [List.length_map]; exact hlt19), List.getElem_map, if_neg (by omega)]
        rw [e9]
        exact ⟨[dI 52 4 3 noD k00], (by exact Sub.k .z), k00, rfl, rfl⟩
      have hge32 : ¬ wrongD d L[i].d ≠ 0 := by omega
      refine T.skip ?_
      have hw0 : wrongD d L[i].d = 0 := by omega
      obtain ⟨_, vx, hvx⟩ := wrongD_zero.1 hw0
      obtain ⟨h64, hok2⟩ := AllOk.at (by rw [List.length_map]; exact hlt19) hok (by rw [List.getElem_map]; exact hw0)
      rw [List.getElem_map] at h64 hok2
      refine T.sub (O' := [oI b8 25 [(.int .i64 (opD andB d L[i].d).vars), (.int .i64 (opD andB d L[i].d).start), (.slice k'.nb ((opD andB d L[i].d).next.length) k'.nc), (.slice k'.fb ((opD andB d L[i].d).final.length) k'.fc)], dI 52 4 3 (opD andB d L[i].d) k', dI 52 4 3 d kd, oI z2 25 (dC d kd), oI z1 25 [(.int .i64 0), (.int .i64 0), (.slice none 0 0), (.slice none 0 0)]]) (by rw [← opV_ok (f := andB) hw0]; exact Sub.rf) ?_
      refine T.region ?_
      refine TO.quiet (q_load_boxAgg 0 Tryd.underlying25 rfl inf25 rfl rfl rfl) ?_
      refine TO.loud rfl (l_store_box (v := (.agg #[(.int .i64 (opD andB d L[i].d).vars), (.int .i64 (opD andB d L[i].d).start), (.slice k'.nb ((opD andB d L[i].d).next.length) k'.nc), (.slice k'.fb ((opD andB d L[i].d).final.length) k'.fc)])) (vs := [(.int .i64 (opD andB d L[i].d).vars), (.int .i64 (opD andB d L[i].d).start), (.slice k'.nb ((opD andB d L[i].d).next.length) k'.nc), (.slice k'.fb ((opD andB d L[i].d).final.length) k'.fc)]) 3 inf25 rfl rfl rfl rfl rfl rfl (by simp [putL]) ?_)
      refine TO.nil (T.region ?_)
      refine TO.quiet (q_move rfl) (TO.quiet (q_addN (a := i) (b := 1) rfl rfl (by omega)) (TO.quiet (q_assign rfl) ?_))
      refine TO.nil ?_
      refine ⟨i + 1, by omega, [dI 52 4 3 (opD andB d L[i].d) k', oI z2 25 [(.int .i64 (opD andB d L[i].d).vars), (.int .i64 (opD andB d L[i].d).start), (.slice k'.nb ((opD andB d L[i].d).next.length) k'.nc), (.slice k'.fb ((opD andB d L[i].d).final.length) k'.fc)], oI z1 25 [(.int .i64 0), (.int .i64 0), (.slice none 0 0), (.slice none 0 0)]], (by exact Sub.d (.k (.d (.k (.k .z))))), opD andB d L[i].d, k', rfl, by omega, opD_valid vd vx hvx (by omega), ?_, hok2, ⟨rfl, rfl, rfl, rfl, rfl, trivial⟩⟩
      rw [hall, allR_at (by rw [List.length_map]; exact hlt19), List.getElem_map, if_pos hw0]
    have hge19 : ¬ i < L.length := by omega
    refine T.exit ?_
    refine T.seq (T.region ?_)
    refine TO.quiet (q_load_boxAgg 1 Tryd.underlying25 rfl inf25 rfl rfl rfl) ?_
    refine TO.loud rfl (l_store_box (v := (dV d kd)) (vs := (dC d kd)) 2 inf25 rfl rfl rfl rfl rfl rfl (by simp [putL]) ?_)
    refine TO.quiet (q_assign rfl) ?_
    refine TO.nil (T.ret (Res.drop ?_))
    refine Res.cell1b (.int .i64 0) (i := 2) Tryd.results31 Tryd.underlying25 rfl inf25 rfl rfl rfl rfl ?_
    have e9 : allV n (L.map DRec.d) = (d, 0) := by
      unfold allV
      rw [if_pos ⟨h0, h6⟩, hall, allR_end (by rw [List.length_map]; omega)]
    rw [e9]
    exact ⟨[dI 52 4 3 d kd], (by exact Sub.k .z), kd, rfl, rfl⟩
  have hk11 := fun (w1 : World) (hI : Inv w [oI z1 25 [(.int .i64 0), (.int .i64 0), (.slice none 0 0), (.slice none 0 0)]] w1) => varsF w1 n
  refine TO.loud rfl (l_call ent64 (CallT.of_pure hk11) rfl ?_)
  clear hk11
  rintro vr O' ⟨N, rfl, rfl, rfl⟩
  rw [decide_eq_false h06]
  refine TO.quiet (q_not rfl) ?_
  refine TO.nil ?_
  refine T.cond1 rfl ?_
  refine T.seq ?_
  refine T.nilD 52 4 3 ?_
  refine T.region ?_
  refine TO.quiet (q_build plan25 inf25 rfl) ?_
  refine TO.loud rfl (l_store_box (v := (.agg #[(.int .i64 0), (.int .i64 0), (.slice none 0 0), (.slice none 0 0)])) (vs := [(.int .i64 0), (.int .i64 0), (.slice none 0 0), (.slice none 0 0)]) 1 inf25 rfl rfl rfl rfl rfl rfl (by simp [putL]) ?_)
  refine TO.quiet (q_assign rfl) ?_
  refine TO.nil (T.ret (Res.drop ?_))
  refine Res.cell1b (.int .i64 7) (i := 1) Tryd.results31 Tryd.underlying25 rfl inf25 rfl rfl rfl rfl ?_
  have e9 : allV n (L.map DRec.d) = (noD, 7) := by unfold allV; rw [if_neg h06]
  rw [e9]
  exact ⟨[dI 52 4 3 noD k00], (by exact Sub.k .z), k00, rfl, rfl⟩
set_option maxHeartbeats 1000000 in
set_option maxRecDepth 20000 in
theorem applyC (w : World) (op : Int) (a b : DFA) (j k : DK) (ha : At w a j) (hb : At w b k) (haa : a.next.length < 9223372036854775807) (haar : ∀ r ∈ a.next, r.length < 9223372036854775807) (haaf : a.final.length < 9223372036854775807) (hbb : b.next.length < 9223372036854775807) (hbbr : ∀ r ∈ b.next, r.length < 9223372036854775807) (hbbf : b.final.length < 9223372036854775807) (hN : wrongD a b = 0 → a.next.length * b.next.length ≤ 4096 ∧ ∀ f, (order (prodD f a b)).length < 100) :
    PureT Tryd.prog 18 [.int .i64 op, dV a j, dV b k] w fun v N => ∃ k' : DK, v = .tuple #[dV (opV (opB op) a b) k', .int .i64 (wrongD a b : Int)] ∧ N = [dI 52 4 3 (opV (opB op) a b) k'] := by
  refine CallT.enter Tryd.func18 rfl Tryd.ntmps18 rfl ?_
  refine T.seq (T.region ?_)
  refine TO.loud rfl (l_box (v := (dV a j)) (cs := (dC a j)) rfl rfl (fun bx1 => ?_))
  refine TO.loud rfl (l_box (v := (dV b k)) (cs := (dC b k)) rfl rfl (fun bx2 => ?_))
  refine TO.loud rfl (l_alloc inf25 rfl (fun bx3 => ?_))
  refine TO.quiet (q_assign rfl) ?_
  refine TO.nil (T.seq (T.seq (T.region ?_)))
  refine TO.quiet (q_move rfl) ?_
  refine TO.nil (T.block (T.seq (T.region ?_)))
  refine TO.quiet (q_eql rfl rfl) (TO.quiet (q_assign rfl) ?_)
  refine TO.nil ?_
  refine T.condP rfl (fun hc => ?_) (fun hc => ?_)
  · refine T.seq ?_
    refine T.region ?_
    refine TO.quiet (q_load_boxAgg 2 Tryd.underlying25 rfl inf25 rfl rfl rfl) (TO.quiet (q_load_boxAgg 1 Tryd.underlying25 rfl inf25 rfl rfl rfl) ?_)
    have hk13 := fun (w1 : World) (hI : Inv w [oI bx3 25 [(.int .i64 0), (.int .i64 0), (.slice none 0 0), (.slice none 0 0)], oI bx2 25 (dC b k), oI bx1 25 (dC a j)] w1) => (show PureT _ _ _ _ _ from by
        have h9 := andC w1 a b j k (hI.atB ha) (hI.atB hb) haa haar haaf hbb hbbr hbbf (fun hw => ⟨(hN hw).1, (hN hw).2 andB⟩)
        rw [show andB = opB op by unfold opB; rw [if_pos (by omega)]] at h9
        exact h9)
    refine TO.loud rfl (l_call ent22 (CallT.of_pure hk13) rfl ?_)
    clear hk13
    rintro vr O' ⟨N, rfl, k', rfl, rfl⟩
    refine TO.quiet (q_extract (vs := _) rfl rfl) (TO.quiet (q_extract (vs := _) rfl rfl) ?_)
    refine TO.loud rfl (l_store_box (v := (dV (opV (opB op) a b) k')) (vs := (dC (opV (opB op) a b) k')) 1 inf25 rfl rfl rfl rfl rfl rfl (by simp [putL]) ?_)
    refine TO.quiet (q_assign rfl) ?_
    refine TO.nil (T.ret (Res.drop ?_))
    refine Res.cell1b (.int .i64 (wrongD a b : Int)) (i := 1) Tryd.results18 Tryd.underlying25 rfl inf25 rfl rfl rfl rfl ?_
    exact ⟨[dI 52 4 3 (opV (opB op) a b) k'], (by exact Sub.k .z), k', rfl, rfl⟩
  refine T.seq (T.region ?_)
  refine TO.quiet (q_eql rfl rfl) (TO.quiet (q_assign rfl) ?_)
  refine TO.nil ?_
  refine T.condP rfl (fun hc => ?_) (fun hc => ?_)
  · refine T.seq ?_
    refine T.region ?_
    refine TO.quiet (q_load_boxAgg 2 Tryd.underlying25 rfl inf25 rfl rfl rfl) (TO.quiet (q_load_boxAgg 1 Tryd.underlying25 rfl inf25 rfl rfl rfl) ?_)
    have hk20 := fun (w1 : World) (hI : Inv w [oI bx3 25 [(.int .i64 0), (.int .i64 0), (.slice none 0 0), (.slice none 0 0)], oI bx2 25 (dC b k), oI bx1 25 (dC a j)] w1) => (show PureT _ _ _ _ _ from by
        have h9 := orC w1 a b j k (hI.atB ha) (hI.atB hb) haa haar haaf hbb hbbr hbbf (fun hw => ⟨(hN hw).1, (hN hw).2 orB⟩)
        rw [show orB = opB op by unfold opB; rw [if_neg (by omega), if_pos (by omega)]] at h9
        exact h9)
    refine TO.loud rfl (l_call ent23 (CallT.of_pure hk20) rfl ?_)
    clear hk20
    rintro vr O' ⟨N, rfl, k', rfl, rfl⟩
    refine TO.quiet (q_extract (vs := _) rfl rfl) (TO.quiet (q_extract (vs := _) rfl rfl) ?_)
    refine TO.loud rfl (l_store_box (v := (dV (opV (opB op) a b) k')) (vs := (dC (opV (opB op) a b) k')) 1 inf25 rfl rfl rfl rfl rfl rfl (by simp [putL]) ?_)
    refine TO.quiet (q_assign rfl) ?_
    refine TO.nil (T.ret (Res.drop ?_))
    refine Res.cell1b (.int .i64 (wrongD a b : Int)) (i := 1) Tryd.results18 Tryd.underlying25 rfl inf25 rfl rfl rfl rfl ?_
    exact ⟨[dI 52 4 3 (opV (opB op) a b) k'], (by exact Sub.k .z), k', rfl, rfl⟩
  refine T.seq (T.region ?_)
  refine TO.quiet (q_eql rfl rfl) (TO.quiet (q_assign rfl) ?_)
  refine TO.nil ?_
  refine T.condP rfl (fun hc => ?_) (fun hc => ?_)
  · refine T.seq ?_
    refine T.region ?_
    refine TO.quiet (q_load_boxAgg 2 Tryd.underlying25 rfl inf25 rfl rfl rfl) (TO.quiet (q_load_boxAgg 1 Tryd.underlying25 rfl inf25 rfl rfl rfl) ?_)
    have hk27 := fun (w1 : World) (hI : Inv w [oI bx3 25 [(.int .i64 0), (.int .i64 0), (.slice none 0 0), (.slice none 0 0)], oI bx2 25 (dC b k), oI bx1 25 (dC a j)] w1) => (show PureT _ _ _ _ _ from by
        have h9 := xorC w1 a b j k (hI.atB ha) (hI.atB hb) haa haar haaf hbb hbbr hbbf (fun hw => ⟨(hN hw).1, (hN hw).2 xorB⟩)
        rw [show xorB = opB op by unfold opB; rw [if_neg (by omega), if_neg (by omega), if_pos (by omega)]] at h9
        exact h9)
    refine TO.loud rfl (l_call ent24 (CallT.of_pure hk27) rfl ?_)
    clear hk27
    rintro vr O' ⟨N, rfl, k', rfl, rfl⟩
    refine TO.quiet (q_extract (vs := _) rfl rfl) (TO.quiet (q_extract (vs := _) rfl rfl) ?_)
    refine TO.loud rfl (l_store_box (v := (dV (opV (opB op) a b) k')) (vs := (dC (opV (opB op) a b) k')) 1 inf25 rfl rfl rfl rfl rfl rfl (by simp [putL]) ?_)
    refine TO.quiet (q_assign rfl) ?_
    refine TO.nil (T.ret (Res.drop ?_))
    refine Res.cell1b (.int .i64 (wrongD a b : Int)) (i := 1) Tryd.results18 Tryd.underlying25 rfl inf25 rfl rfl rfl rfl ?_
    exact ⟨[dI 52 4 3 (opV (opB op) a b) k'], (by exact Sub.k .z), k', rfl, rfl⟩
  refine T.skip (T.seq (T.region ?_))
  refine TO.quiet (q_load_boxAgg 2 Tryd.underlying25 rfl inf25 rfl rfl rfl) (TO.quiet (q_load_boxAgg 1 Tryd.underlying25 rfl inf25 rfl rfl rfl) ?_)
  have hk32 := fun (w1 : World) (hI : Inv w [oI bx3 25 [(.int .i64 0), (.int .i64 0), (.slice none 0 0), (.slice none 0 0)], oI bx2 25 (dC b k), oI bx1 25 (dC a j)] w1) => (show PureT _ _ _ _ _ from by
      have h9 := minusC w1 a b j k (hI.atB ha) (hI.atB hb) haa haar haaf hbb hbbr hbbf (fun hw => ⟨(hN hw).1, (hN hw).2 minusB⟩)
      rw [show minusB = opB op by unfold opB; rw [if_neg (by omega), if_neg (by omega), if_neg (by omega)]] at h9
      exact h9)
  refine TO.loud rfl (l_call ent25 (CallT.of_pure hk32) rfl ?_)
  clear hk32
  rintro vr O' ⟨N, rfl, k', rfl, rfl⟩
  refine TO.quiet (q_extract (vs := _) rfl rfl) (TO.quiet (q_extract (vs := _) rfl rfl) ?_)
  refine TO.loud rfl (l_store_box (v := (dV (opV (opB op) a b) k')) (vs := (dC (opV (opB op) a b) k')) 1 inf25 rfl rfl rfl rfl rfl rfl (by simp [putL]) ?_)
  refine TO.quiet (q_assign rfl) ?_
  refine TO.nil (T.ret (Res.drop ?_))
  refine Res.cell1b (.int .i64 (wrongD a b : Int)) (i := 1) Tryd.results18 Tryd.underlying25 rfl inf25 rfl rfl rfl rfl ?_
  exact ⟨[dI 52 4 3 (opV (opB op) a b) k'], (by exact Sub.k .z), k', rfl, rfl⟩
end Go.Proofs.YtdaapdamcekkgaaDoor

namespace Go.Lx
open Go.RowKit
set_option linter.unusedVariables false
def exO : DFA := ⟨1, 0, [[2, 1], [1, 1], [2, 2]], [false, true, false]⟩
def exE : DFA := ⟨1, 0, [[1, 1], [0, 0]], [true, false]⟩
theorem exO_valid : Valid exO := checkD_zero.1 (by decide)
theorem exE_valid : Valid exE := checkD_zero.1 (by decide)
theorem exO_has : HasL 1 3 exO (acc exO) := HasL.of exO_valid (by decide)
theorem exE_has : HasL 1 2 exE (acc exE) := HasL.of exE_valid (by decide)
theorem oe_wrong : wrongD exO exE = 0 := wrongD_zero.2 ⟨exO_valid, exE_valid, rfl⟩
theorem HasL.accV {v : Int} {n : Nat} {d : DFA} {p : List Nat → Bool} (h : HasL v n d p) {w : List Nat} (hw : WdV v w) (hl : w.length ≤ 64) : Lx.accV d w = p w := by
  rw [accV_zero (runE_zero.2 ⟨h.valid, hl, h.wd.2 hw⟩), h.acc w hw]
theorem oe_op (f : Bool → Bool → Bool) : MinL 1 6 (opV f exO exE) (fun w => f (acc exO w) (acc exE w)) := by
  rw [opV_ok oe_wrong]; exact exO_has.op exE_has (by decide)
theorem oe_acc (f : Bool → Bool → Bool) {w : List Nat} (hw : ∀ x ∈ w, x < 2) (hl : w.length ≤ 64) : accV (opV f exO exE) w = f (acc exO w) (acc exE w) := (oe_op f).toHasL.accV hw hl
theorem oe_small (f : Bool → Bool → Bool) : wrongD exO exE = 0 → exO.next.length * exE.next.length ≤ 4096 ∧ (order (prodD f exO exE)).length < 100 := fun _ =>
  ⟨by decide, Nat.lt_of_le_of_lt (pr_order_le exO_valid exE_valid rfl) (by decide)⟩
theorem code_low {u : List Nat} (h : code u ≤ 1) : u = [] ∨ u = [0] := by
  have c0 : ∀ w : List Nat, code w = 0 → w = [] := by
    refine snocInd (fun _ => rfl) ?_
    intro l x _ h; rw [code_snoc] at h; omega
  revert h
  refine snocInd (p := fun u => code u ≤ 1 → u = [] ∨ u = [0]) (fun _ => .inl rfl) ?_ u
  intro l x _ h
  rw [code_snoc] at h
  have h1 : code l = 0 := by omega
  have h2 : x = 0 := by omega
  rw [c0 l h1, h2]; exact .inr rfl
theorem oe_incl {res : Option (List Nat)} (h : InclA exO exE res) : res = some [1] := by
  have hL : LeastA (opD minusB exO exE) (some [1]) := by
    have hm := oe_op minusB
    rw [opV_ok oe_wrong] at hm
    have w1 : WdV 1 [1] := (show ∀ x ∈ [1], x < 2 ^ (1 : Int).toNat by decide)
    refine ⟨hm.wd.2 w1, by rw [hm.acc [1] w1]; decide, fun u hu ha => ?_⟩
    rw [hm.acc u (hm.wd.1 hu)] at ha
    refine Classical.byContradiction fun hc => ?_
    have h1 : code [1] = 2 := by decide
    rcases code_low (u := u) (by omega) with rfl | rfl
    · exact absurd ha (by decide)
    · exact absurd ha (by decide)
  exact ((InclA.ok oe_wrong).1 h).unique (opD_valid exO_valid exE_valid rfl (by decide)) hL
theorem on_wrong : checkD exO = 0 := checkD_zero.2 exO_valid
theorem on_not : opV notB exO exO = notD exO := opV_ok (wrongD_zero.2 ⟨exO_valid, exO_valid, rfl⟩)
theorem on_min : MinL 1 9 (notD exO) (fun w => !acc exO w) := exO_has.not (by decide)
theorem on_len : (notD exO).next.length ≤ 3 := notD_len exO_valid (by decide)
theorem on_has : HasL 1 3 (notD exO) (fun w => !acc exO w) := ⟨on_min.valid, on_len, on_min.vars, on_min.acc⟩
theorem nn_not : opV notB (notD exO) (notD exO) = notD (notD exO) := opV_ok (wrongD_zero.2 ⟨on_min.valid, on_min.valid, rfl⟩)
theorem nn_min : MinL 1 9 (notD (notD exO)) (fun w => !!acc exO w) := on_has.not (by decide)
theorem nn_len : (notD (notD exO)).next.length ≤ 3 := Nat.le_trans (notD_len on_min.valid (by have := on_len; exact Nat.le_trans (Nat.mul_le_mul this this) (by decide))) on_len
theorem nn_has : HasL 1 3 (notD (notD exO)) (acc exO) := ⟨nn_min.valid, nn_len, nn_min.vars, fun w hw => by rw [nn_min.acc w hw]; simp⟩
theorem nn_wrong : wrongD exO (notD (notD exO)) = 0 := wrongD_zero.2 ⟨exO_valid, nn_min.valid, rfl⟩
theorem nn_eql : eqlA exO (notD (notD exO)) = true := by
  rw [eqlA_ok nn_wrong]
  have := (same_iff exO_has nn_has (by decide)).2 fun _ _ => rfl
  rw [this.1, this.2]; rfl
theorem nn_small : wrongD exO (notD (notD exO)) = 0 → exO.next.length * (notD (notD exO)).next.length ≤ 4096 ∧ (order (prodD xorB exO (notD (notD exO)))).length < 100 := fun _ => by
  have h1 : exO.next.length = 3 := rfl
  have h2 := nn_len
  have h3 := pr_order_le (f := xorB) exO_valid nn_min.valid (show exO.vars = (notD (notD exO)).vars from rfl)
  rw [h1] at h3 ⊢
  exact ⟨by omega, by omega⟩
theorem aw_facts : accV (opV andB exO exE) [1, 0] = true ∧ accV (opV andB exO exE) [1, 1] = true ∧ accV (opV minusB exO exE) [1] = true ∧ accV (opV orB exO exE) [] = true ∧ accV (opV xorB exO exE) [] = true ∧ accV (opV andB exO exE) [] = false := by
  refine ⟨?_, ?_, ?_, ?_, ?_, ?_⟩ <;> (rw [oe_acc _ (by decide) (by decide)]; decide)
theorem min_bounds {v : Int} {n : Nat} {d : DFA} {p : List Nat → Bool} (h : HasL v n d p) : d.next.length < 9223372036854775807 ∧ (∀ r ∈ d.next, r.length < 9223372036854775807) ∧ d.final.length < 9223372036854775807 :=
  ⟨by have := h.valid.n4; omega, h.valid.bound, by have := h.valid.fin; have := h.valid.n4; omega⟩
end Go.Lx

namespace Go.Proofs.YtdaapdamcekkgaaDoor
open Go.Lx Go.RowKit
set_option linter.unusedVariables false
set_option linter.unusedSimpArgs false
set_option maxHeartbeats 1000000 in
set_option maxRecDepth 20000 in
theorem indexFunc (base : World) (b : Option Addr) (c : Nat) (xs : List Nat) (hS : Sl base b (byts xs)) (hb : xs.length < 9223372036854775807) (fv : Value) (p : Nat → Bool) (OO : List Lx.Item) (hy : ∀ x ∈ xs, CallV Tryd.prog base fv [.int .u8 (x : Int)] OO (fun v O' => v = .bool (p x) ∧ O' = OO)) :
    CallT Tryd.prog base 89 [.slice b xs.length c, fv] OO (fun v O' => ∃ i : Int, v = .int .i64 i ∧ decide (i ≥ 0) = xs.any p ∧ O' = OO) := by
  refine CallT.enter Tryd.func89 rfl Tryd.ntmps89 rfl ?_
  refine T.seq (T.region ?_)
  refine TO.quiet (q_assign rfl) ?_
  refine TO.nil (T.seq (T.seq (T.region ?_)))
  refine TO.quiet (q_move rfl) (TO.quiet (q_len Tryd.underlying35 rfl) (TO.quiet (q_move rfl) ?_))
  refine TO.nil (T.block ?_)
  refine T.loop (fun (k : Nat) ρ O => O = ([] ++ OO) ∧ k ≤ xs.length ∧ (xs.take k).any p = false ∧ Heads [(0, (.slice b xs.length c)), (1, fv), (7, .int .i64 (xs.length : Int)), (8, .int .i64 (k : Int))] ρ) (fun k => xs.length - k) 0 ?_ ?_
  · exact ⟨rfl, Nat.zero_le _, rfl, ⟨rfl, rfl, rfl, rfl, trivial⟩⟩
  rintro k ρ O ⟨rfl, hk, hany, hH⟩
  obtain ⟨ρ0, rfl⟩ := hH.elim
  clear hH
  refine T.seq (T.region ?_)
  refine TO.quiet (q_lss rfl rfl) ?_
  refine TO.nil (T.seq ?_)
  refine T.condP rfl (fun hc => ?_) (fun hc => ?_)
  · have hlt9 : k < xs.length := by omega
    refine T.skip (T.seq (T.block (T.seq (T.region ?_))))
    refine TO.quiet (q_move rfl) (TO.quiet (q_assign rfl) ?_)
    refine TO.nil (T.seq (T.region ?_))
    refine TO.quiet (q_move rfl) (TO.quiet (q_move rfl) (TO.quiet (q_move rfl) (TO.quiet (q_ix (i := k) Tryd.underlying35 inf5 rfl rfl (Sl.o hS) hlt9 (by rw [List.length_map]; exact hlt9)) ?_)))
    refine TO.quiet (q_ld Tryd.underlying5 rfl rfl (Sl.o hS) (byts_get hlt9)) ?_
    have hk16 := hy xs[k] (List.getElem_mem hlt9)
    refine TO.loud rfl (l_callG hk16 rfl rfl ?_)
    clear hk16
    rintro v O' ⟨rfl, rfl⟩
    refine TO.nil ?_
    refine T.cond rfl (fun hc => ?_) (fun hc => ?_)
    · refine T.seq ?_
      refine T.region ?_
      refine TO.quiet (q_move rfl) (TO.quiet (q_assign rfl) ?_)
      refine TO.nil (T.ret (Res.drop ?_))
      refine Res.one (.int .i64 (k : Int)) Tryd.results89 rfl ?_
      exact ⟨_, Sub.of (List.Sublist.refl _), k, rfl, by rw [any_at hlt9 hc]; exact decide_eq_true (by omega), rfl⟩
    refine T.skip (T.region ?_)
    refine TO.quiet (q_inc rfl rfl (by omega)) (TO.quiet (q_move rfl) ?_)
    refine TO.nil ?_
    exact ⟨k + 1, by omega, rfl, by omega, any_take hlt9 hany hc, ⟨rfl, rfl, rfl, rfl, trivial⟩⟩
  have hge9 : ¬ k < xs.length := by omega
  refine T.exit ?_
  refine T.seq (T.region ?_)
  refine TO.quiet (q_assign rfl) ?_
  refine TO.nil (T.ret (Res.drop ?_))
  refine Res.one (.int .i64 (-1)) Tryd.results89 rfl ?_
  exact ⟨_, Sub.of (List.Sublist.refl _), -1, rfl, by rw [List.take_of_length_le (by omega)] at hany; rw [hany]; decide, rfl⟩
set_option maxHeartbeats 1000000 in
set_option maxRecDepth 20000 in
theorem containsFunc (base : World) (b : Option Addr) (c : Nat) (xs : List Nat) (hS : Sl base b (byts xs)) (hb : xs.length < 9223372036854775807) (fv : Value) (p : Nat → Bool) (OO : List Lx.Item) (hy : ∀ x ∈ xs, CallV Tryd.prog base fv [.int .u8 (x : Int)] OO (fun v O' => v = .bool (p x) ∧ O' = OO)) :
    CallT Tryd.prog base 74 [.slice b xs.length c, fv] OO (fun v O' => v = .bool (xs.any p) ∧ O' = OO) := by
  refine CallT.enter Tryd.func74 rfl Tryd.ntmps74 rfl ?_
  refine T.seq (T.region ?_)
  refine TO.quiet (q_assign rfl) ?_
  refine TO.nil (T.seq (T.region ?_))
  refine TO.quiet (q_move rfl) (TO.quiet (q_move rfl) ?_)
  have hk7 := indexFunc base b c xs hS hb fv p OO hy
  refine TO.loud rfl (l_call ent89 hk7 rfl ?_)
  clear hk7
  rintro v O' ⟨i, rfl, hi, rfl⟩
  refine TO.quiet (q_geq rfl rfl) (TO.quiet (q_assign rfl) ?_)
  refine TO.nil (T.ret (Res.drop ?_))
  refine Res.one (.bool (decide (i ≥ 0))) Tryd.results74 rfl ?_
  exact ⟨_, Sub.of (List.Sublist.refl _), congrArg Value.bool hi, rfl⟩
set_option maxHeartbeats 1000000 in
set_option maxRecDepth 20000 in
theorem tooGreat (base : World) (d : DFA) (nb fb : Option Addr) (nc fc : Nat) (hv0 : 0 ≤ d.vars) (hv6 : d.vars ≤ 6) (bx x : Nat) (hx : x < 256) :
    CallT Tryd.prog base 75 [.int .u8 (x : Int), .pointer (some ⟨bx, 0, none⟩)] [oI bx 25 [(.int .i64 d.vars), (.int .i64 d.start), (.slice nb d.next.length nc), (.slice fb d.final.length fc)]] (fun v O' => v = .bool (decide (2 ^ d.vars.toNat ≤ x)) ∧ O' = [oI bx 25 [(.int .i64 d.vars), (.int .i64 d.start), (.slice nb d.next.length nc), (.slice fb d.final.length fc)]]) := by
  refine CallT.enter Tryd.func75 rfl Tryd.ntmps75 rfl ?_
  refine T.seq (T.region ?_)
  refine TO.quiet (q_assign rfl) ?_
  refine TO.nil (T.seq (T.region ?_))
  refine TO.quiet (q_move rfl) (TO.quiet (q_conv_id Tryd.underlying5 Tryd.underlying3 rfl (wrap64_id ⟨by omega, by omega⟩)) (TO.quiet (q_fieldAddr Tryd.underlying25 rfl inf3 rfl rfl) (TO.quiet (q_load_box 0 Tryd.underlying3 rfl rfl rfl rfl) ?_)))
  refine TO.quiet (q_shl1 (v := d.vars.toNat) rfl (by show Value.int _ d.vars = _; rw [Int.toNat_of_nonneg hv0]) (by omega)) (TO.quiet (q_geq rfl rfl) (TO.quiet (q_assign rfl) ?_))
  refine TO.nil (T.ret ?_)
  refine Res.one (.bool (decide ((x : Int) ≥ ((2 ^ d.vars.toNat : Nat) : Int)))) Tryd.results75 rfl ?_
  exact ⟨congrArg Value.bool (decide_eq_decide.2 (by omega)), rfl⟩
set_option maxHeartbeats 1000000 in
set_option maxRecDepth 20000 in
theorem runM (w : World) (d : DFA) (nb fb : Option Addr) (nc fc : Nat) (vs : List Value) (h : DfaAt w d nb vs fb) (hv : Valid d) (wb : Option Addr) (wc : Nat) (l : List Nat) (hW : Sl w wb (byts l)) (hwb : l.length < 9223372036854775807) (hwd : Wd d l) :
    PureT Tryd.prog 76 [.agg (dfaCells d nb nc fb fc).toArray, .slice wb l.length wc] w fun v N => v = .int .i64 ((Lx.runN d d.start.toNat l : Nat) : Int) ∧ N = [] := by
  refine CallT.enter Tryd.func76 rfl Tryd.ntmps76 rfl ?_
  have hs0 := hv.s0
  have hs1 := hv.s1
  have hvl := h.rows.1
  refine T.seq (T.region ?_)
  refine TO.loud rfl (l_box (v := (.agg #[(.int .i64 d.vars), (.int .i64 d.start), (.slice nb d.next.length nc), (.slice fb d.final.length fc)])) (cs := [(.int .i64 d.vars), (.int .i64 d.start), (.slice nb d.next.length nc), (.slice fb d.final.length fc)]) rfl rfl (fun b1 => ?_))
  refine TO.quiet (q_assign rfl) ?_
  refine TO.nil (T.seq (T.region ?_))
  refine TO.quiet (q_fieldAddr Tryd.underlying98 rfl inf25 rfl rfl) (TO.quiet (q_fieldAddr Tryd.underlying25 rfl inf3 rfl rfl) (TO.quiet (QT.cast (q_load_box 0 Tryd.underlying3 rfl rfl rfl rfl) (v' := .int .i64 ((Lx.runN d d.start.toNat (l.take 0) : Nat) : Int)) (by show Value.int _ d.start = _; rw [show Lx.runN d d.start.toNat (l.take 0) = d.start.toNat from rfl, Int.toNat_of_nonneg hs0])) (TO.quiet (q_assign rfl) ?_)))
  refine TO.nil (T.seq (T.seq (T.region ?_)))
  refine TO.quiet (q_move rfl) (TO.quiet (q_len Tryd.underlying35 rfl) (TO.quiet (q_move rfl) ?_))
  refine TO.nil (T.block ?_)
  refine T.loop (fun (k : Nat) ρ O => O = [oI b1 98 [(.int .i64 d.vars), (.int .i64 d.start), (.slice nb d.next.length nc), (.slice fb d.final.length fc)]] ∧ k ≤ l.length ∧ Heads [(0, (.agg #[(.int .i64 d.vars), (.int .i64 d.start), (.slice nb d.next.length nc), (.slice fb d.final.length fc)])), (1, (.slice wb l.length wc)), (2, (.pointer (some ⟨b1, 0, none⟩))), (4, .int .i64 0), (5, .int .i64 ((Lx.runN d d.start.toNat (l.take k) : Nat) : Int)), (11, (.slice wb l.length wc)), (12, .int .i64 (l.length : Int)), (13, .int .i64 (k : Int))] ρ) (fun k => l.length - k) 0 ?_ ?_
  · exact ⟨rfl, Nat.zero_le _, ⟨rfl, rfl, rfl, rfl, rfl, rfl, rfl, rfl, trivial⟩⟩
  rintro k ρ O ⟨rfl, hk, hH⟩
  obtain ⟨ρ0, rfl⟩ := hH.elim
  clear hH
  refine T.seq (T.region ?_)
  refine TO.quiet (q_lss rfl rfl) ?_
  refine TO.nil (T.seq ?_)
  refine T.condP rfl (fun hc => ?_) (fun hc => ?_)
  · have hlt14 : k < l.length := by omega
    obtain ⟨o, ho⟩ : ∃ o, Lx.runN d d.start.toNat (l.take k) = o := ⟨_, rfl⟩
    have ho9 : o < d.next.length := by rw [← ho]; exact runN_lt hv (by omega) _ (fun x hx => hwd x (List.mem_of_mem_take hx))
    have hlx : l[k] < 2 ^ d.vars.toNat := hwd _ (List.getElem_mem hlt14)
    obtain ⟨vb, vc, g1, s1⟩ := h.rows.get ho9
    have hl1 : d.next[o].length = 2 ^ d.vars.toNat := hv.len _ (List.getElem_mem ho9)
    obtain ⟨hta, _, hxk1, hx1⟩ := hv.toN_lt ho9 hlx
    have hx1 : (ints d.next[o])[l[k]]? = some (.int .i64 ((toN d o l[k] : Nat) : Int)) := by rw [ints_get hxk1, hx1]
    refine T.skip (T.seq (T.block (T.seq (T.region ?_))))
    refine TO.quiet (q_ix (i := k) Tryd.underlying35 inf5 rfl rfl (Sl.o hW) hlt14 (by rw [List.length_map]; exact hlt14)) (TO.quiet (q_ld Tryd.underlying5 rfl rfl (Sl.o hW) (byts_get hlt14)) (TO.quiet (q_assign rfl) ?_))
    refine TO.nil (T.region ?_)
    refine TO.quiet (q_fieldAddr Tryd.underlying98 rfl inf25 rfl rfl) (TO.quiet (q_fieldAddr Tryd.underlying25 rfl inf22 rfl rfl) (TO.quiet (q_load_box 0 Tryd.underlying22 rfl rfl rfl rfl) (TO.quiet (QT.cast (q_move rfl) (v' := .int .i64 ((o : Nat) : Int)) (by show Value.int _ _ = _; rw [ho])) ?_)))
    refine TO.quiet (q_ix (i := o) Tryd.underlying22 inf52 rfl rfl (Sl.o h.outer) ho9 (hvl ▸ ho9)) (TO.quiet (q_ld Tryd.underlying52 rfl rfl (Sl.o h.outer) g1) (TO.quiet (q_move rfl) (TO.quiet (q_ix (i := l[k]) Tryd.underlying52 inf3 rfl rfl (Sl.o s1) (by rw [hl1]; exact hlx) (by rw [List.length_map, hl1]; exact hlx)) ?_)))
    refine TO.quiet (q_ld Tryd.underlying3 rfl rfl (Sl.o s1) hx1) (TO.quiet (q_assign rfl) ?_)
    refine TO.nil (T.region ?_)
    refine TO.quiet (q_inc rfl rfl (by omega)) (TO.quiet (q_move rfl) ?_)
    refine TO.nil ?_
    refine ⟨k + 1, by omega, rfl, by omega, ?_⟩
    rw [runN_take hlt14, ho]; exact ⟨rfl, rfl, rfl, rfl, rfl, rfl, rfl, rfl, trivial⟩
  have hge14 : ¬ k < l.length := by omega
  refine T.exit ?_
  refine T.seq (T.region ?_)
  refine TO.quiet (q_move rfl) (TO.quiet (q_assign rfl) ?_)
  refine TO.nil (T.ret (Res.drop ?_))
  refine Res.one (.int .i64 ((Lx.runN d d.start.toNat (l.take k) : Nat) : Int)) Tryd.results76 rfl ?_
  have hke : k = l.length := by omega
  exact ⟨[], Sub.of (List.nil_sublist _), by rw [List.take_of_length_le (by omega)], rfl⟩
set_option maxHeartbeats 1000000 in
set_option maxRecDepth 20000 in
theorem runA (w : World) (d : DFA) (nb fb : Option Addr) (nc fc : Nat) (vs : List Value) (h : DfaAt w d nb vs fb) (hb : d.next.length < 9223372036854775807) (hbr : ∀ r ∈ d.next, r.length < 9223372036854775807) (hbf : d.final.length < 9223372036854775807) (wb : Option Addr) (wc : Nat) (l : List Nat) (hW : Sl w wb (byts l)) (hwb : l.length < 9223372036854775807) (hw8 : ∀ x ∈ l, x < 256) :
    PureT Tryd.prog 50 [.agg (dfaCells d nb nc fb fc).toArray, .slice wb l.length wc] w fun v N => v = .tuple #[.int .i64 ((runV d l : Nat) : Int), .int .i64 ((runE d l : Nat) : Int)] ∧ N = [] := by
  refine CallT.enter Tryd.func50 rfl Tryd.ntmps50 rfl ?_
  refine T.seq (T.region ?_)
  refine TO.loud rfl (l_box (v := (.agg #[(.int .i64 d.vars), (.int .i64 d.start), (.slice nb d.next.length nc), (.slice fb d.final.length fc)])) (cs := [(.int .i64 d.vars), (.int .i64 d.start), (.slice nb d.next.length nc), (.slice fb d.final.length fc)]) rfl rfl (fun b1 => ?_))
  refine TO.quiet (q_assign rfl) (TO.quiet (q_assign rfl) ?_)
  refine TO.nil (T.seq (T.seq (T.region ?_)))
  refine TO.quiet (q_load_boxAgg 0 Tryd.underlying25 rfl inf25 rfl rfl rfl) ?_
  have hk9 := fun (w1 : World) (hI : Inv w [oI b1 25 [(.int .i64 d.vars), (.int .i64 d.start), (.slice nb d.next.length nc), (.slice fb d.final.length fc)]] w1) => subsetCheck w1 d nb fb nc fc vs (hI.dfa h) hb hbr hbf
  refine TO.loud rfl (l_call ent20 (CallT.of_pure hk9) rfl ?_)
  clear hk9
  rintro v O' ⟨N, rfl, rfl, rfl⟩
  refine TO.quiet (q_assign rfl) ?_
  refine TO.nil (T.seq (T.region ?_))
  refine TO.quiet (q_move rfl) ?_
  by_cases hE : (checkD d : Int) ≠ 0
  · refine TO.quiet (QT.toB (q_neq rfl rfl) (decide_eq_true hE)) ?_
    refine TO.nil ?_
    refine T.cond1 rfl ?_
    refine T.seq (T.region ?_)
    refine TO.quiet (q_move rfl) (TO.quiet (q_assign rfl) (TO.quiet (q_assign rfl) ?_))
    refine TO.nil (T.ret (Res.drop ?_))
    refine Res.two (.int .i64 0) (.int .i64 (checkD d : Int)) Tryd.results50 rfl rfl ?_
    have hE1 : runE d l = checkD d := by unfold runE; rw [if_pos (by omega)]
    have hE0 : ¬ runE d l = 0 := by omega
    exact ⟨[], Sub.of (List.nil_sublist _), by unfold runV; rw [if_neg hE0, hE1]; try rfl, rfl⟩
  refine TO.quiet (QT.toB (q_neq rfl rfl) (decide_eq_false hE)) ?_
  refine TO.nil ?_
  refine T.cond0 rfl ?_
  refine T.skip (T.seq (T.block (T.seq ?_)))
  have he : checkD d = 0 := by omega
  have hv : Valid d := checkD_zero.1 he
  refine T.region ?_
  refine TO.quiet (q_move rfl) (TO.quiet (q_len Tryd.underlying35 rfl) ?_)
  by_cases h64 : (l.length : Int) > 64
  · refine TO.quiet (QT.toB (q_gtr rfl rfl) (decide_eq_true h64)) ?_
    refine TO.quiet (q_assign rfl) ?_
    refine TO.nil ?_
    refine T.cond1 rfl ?_
    refine T.seq (T.region ?_)
    refine TO.quiet (q_assign rfl) (TO.quiet (q_assign rfl) ?_)
    refine TO.nil (T.ret (Res.drop ?_))
    refine Res.two (.int .i64 0) (.int .i64 4) Tryd.results50 rfl rfl ?_
    have hE1 : runE d l = 4 := by unfold runE; rw [if_neg (by simp [he]), if_pos (by omega)]
    have hE0 : ¬ runE d l = 0 := by omega
    exact ⟨[], Sub.of (List.nil_sublist _), by unfold runV; rw [if_neg hE0, hE1]; try rfl, rfl⟩
  refine TO.quiet (QT.toB (q_gtr rfl rfl) (decide_eq_false h64)) (TO.quiet (q_assign rfl) ?_)
  refine TO.nil ?_
  refine T.cond0 rfl ?_
  refine T.seq (T.region ?_)
  refine TO.quiet (q_move rfl) (TO.quiet (q_makeFunc) ?_)
  by_cases hany : l.any (fun x => decide (2 ^ d.vars.toNat ≤ x)) = true
  · have hk20 := (containsFunc w wb wc l hW hwb (.func (.func 75) #[] #[.pointer (some ⟨b1, 0, none⟩)]) (fun x => decide (2 ^ d.vars.toNat ≤ x)) [oI b1 25 [(.int .i64 d.vars), (.int .i64 d.start), (.slice nb d.next.length nc), (.slice fb d.final.length fc)]] (fun x hx => CallV.of_fn (first := []) (args := [.int .u8 (x : Int)]) (caps := [.pointer (some ⟨b1, 0, none⟩)]) ent75 (tooGreat w d nb fb nc fc hv.v0 hv.v6 b1 x (hw8 x hx)))).mono (fun v O' hh => (⟨hh.1.trans (congrArg Value.bool ((show ∀ b : Bool, b = decide (b = true) from fun b => by cases b <;> rfl) _)), hh.2⟩ : v = .bool (decide (l.any (fun x => decide (2 ^ d.vars.toNat ≤ x)) = true)) ∧ O' = [oI b1 25 [(.int .i64 d.vars), (.int .i64 d.start), (.slice nb d.next.length nc), (.slice fb d.final.length fc)]]))
    refine TO.loud rfl (l_call ent74 hk20 rfl ?_)
    clear hk20
    rintro v O' ⟨rfl, rfl⟩
    rw [decide_eq_true hany]
    refine TO.quiet (q_assign rfl) ?_
    refine TO.nil ?_
    refine T.cond1 rfl ?_
    refine T.seq (T.region ?_)
    refine TO.quiet (q_assign rfl) (TO.quiet (q_assign rfl) ?_)
    refine TO.nil (T.ret (Res.drop ?_))
    refine Res.two (.int .i64 0) (.int .i64 1) Tryd.results50 rfl rfl ?_
    have hE1 : runE d l = 1 := by unfold runE; rw [if_neg (by simp [he]), if_neg (by omega), if_pos hany]
    have hE0 : ¬ runE d l = 0 := by omega
    exact ⟨[], Sub.of (List.nil_sublist _), by unfold runV; rw [if_neg hE0, hE1]; try rfl, rfl⟩
  have hk20 := (containsFunc w wb wc l hW hwb (.func (.func 75) #[] #[.pointer (some ⟨b1, 0, none⟩)]) (fun x => decide (2 ^ d.vars.toNat ≤ x)) [oI b1 25 [(.int .i64 d.vars), (.int .i64 d.start), (.slice nb d.next.length nc), (.slice fb d.final.length fc)]] (fun x hx => CallV.of_fn (first := []) (args := [.int .u8 (x : Int)]) (caps := [.pointer (some ⟨b1, 0, none⟩)]) ent75 (tooGreat w d nb fb nc fc hv.v0 hv.v6 b1 x (hw8 x hx)))).mono (fun v O' hh => (⟨hh.1.trans (congrArg Value.bool ((show ∀ b : Bool, b = decide (b = true) from fun b => by cases b <;> rfl) _)), hh.2⟩ : v = .bool (decide (l.any (fun x => decide (2 ^ d.vars.toNat ≤ x)) = true)) ∧ O' = [oI b1 25 [(.int .i64 d.vars), (.int .i64 d.start), (.slice nb d.next.length nc), (.slice fb d.final.length fc)]]))
  refine TO.loud rfl (l_call ent74 hk20 rfl ?_)
  clear hk20
  rintro v O' ⟨rfl, rfl⟩
  rw [decide_eq_false hany]
  refine TO.quiet (q_assign rfl) ?_
  refine TO.nil ?_
  refine T.cond0 rfl ?_
  refine T.skip (T.seq ?_)
  have hE0 : runE d l = 0 := by unfold runE; rw [if_neg (by simp [he]), if_neg (by omega), if_neg hany]
  have hwd : Wd d l := (runE_zero.1 hE0).2.2
  refine T.region ?_
  refine TO.quiet (q_load_boxAgg 0 Tryd.underlying25 rfl inf25 rfl rfl rfl) (TO.quiet (q_build (cs := [(.int .i64 d.vars), (.int .i64 d.start), (.slice nb d.next.length nc), (.slice fb d.final.length fc)]) plan98 inf98 (by kernel_rfl)) (TO.quiet (q_makeFunc) (TO.quiet (q_assign rfl) ?_)))
  refine TO.nil (T.seq (T.region ?_))
  refine TO.quiet (q_move rfl) (TO.quiet (q_move rfl) ?_)
  have hk26 := CallV.of_fn (first := [.agg (dfaCells d nb nc fb fc).toArray]) (args := [.slice wb l.length wc]) (caps := []) ent76 (CallT.of_pure (fun w1 (hI : Inv w [oI b1 25 [(.int .i64 d.vars), (.int .i64 d.start), (.slice nb d.next.length nc), (.slice fb d.final.length fc)]] w1) => runM w1 d nb fb nc fc vs (hI.dfa h) hv wb wc l (hI.sl hW) hwb hwd))
  refine TO.loud rfl (l_callG hk26 rfl rfl ?_)
  clear hk26
  rintro v O' ⟨N, rfl, rfl, rfl⟩
  refine TO.quiet (q_assign rfl) (TO.quiet (q_assign rfl) ?_)
  refine TO.nil (T.ret (Res.drop ?_))
  refine Res.two (.int .i64 ((Lx.runN d d.start.toNat l : Nat) : Int)) (.int .i64 0) Tryd.results50 rfl rfl ?_
  have hE1 := hE0
  exact ⟨[], Sub.of (List.nil_sublist _), by unfold runV; rw [if_pos hE0, hE1]; try rfl, rfl⟩
set_option maxHeartbeats 1000000 in
set_option maxRecDepth 20000 in
theorem acceptsA (w : World) (d : DFA) (nb fb : Option Addr) (nc fc : Nat) (vs : List Value) (h : DfaAt w d nb vs fb) (hb : d.next.length < 9223372036854775807) (hbr : ∀ r ∈ d.next, r.length < 9223372036854775807) (hbf : d.final.length < 9223372036854775807) (wb : Option Addr) (wc : Nat) (l : List Nat) (hW : Sl w wb (byts l)) (hwb : l.length < 9223372036854775807) (hw8 : ∀ x ∈ l, x < 256) :
    PureT Tryd.prog 19 [.agg (dfaCells d nb nc fb fc).toArray, .slice wb l.length wc] w fun v N => v = .tuple #[.bool (accV d l), .int .i64 ((runE d l : Nat) : Int)] ∧ N = [] := by
  refine CallT.enter Tryd.func19 rfl Tryd.ntmps19 rfl ?_
  refine T.seq (T.region ?_)
  refine TO.loud rfl (l_box (v := (.agg #[(.int .i64 d.vars), (.int .i64 d.start), (.slice nb d.next.length nc), (.slice fb d.final.length fc)])) (cs := [(.int .i64 d.vars), (.int .i64 d.start), (.slice nb d.next.length nc), (.slice fb d.final.length fc)]) rfl rfl (fun b1 => ?_))
  refine TO.quiet (q_assign rfl) (TO.quiet (q_assign rfl) ?_)
  refine TO.nil (T.seq (T.region ?_))
  refine TO.quiet (q_load_boxAgg 0 Tryd.underlying25 rfl inf25 rfl rfl rfl) (TO.quiet (q_move rfl) ?_)
  have hk11 := fun (w1 : World) (hI : Inv w [oI b1 25 [(.int .i64 d.vars), (.int .i64 d.start), (.slice nb d.next.length nc), (.slice fb d.final.length fc)]] w1) => runA w1 d nb fb nc fc vs (hI.dfa h) hb hbr hbf wb wc l (hI.sl hW) hwb hw8
  refine TO.loud rfl (l_call ent50 (CallT.of_pure hk11) rfl ?_)
  clear hk11
  rintro v O' ⟨N, rfl, rfl, rfl⟩
  refine TO.quiet (q_move rfl) (TO.quiet (q_extract (vs := _) rfl rfl) (TO.quiet (q_extract (vs := _) rfl rfl) (TO.quiet (q_assign rfl) ?_)))
  refine TO.quiet (q_assign rfl) ?_
  refine TO.nil (T.seq ?_)
  have hfin : runE d l = 0 → runV d l < d.final.length := fun h0 => by
    obtain ⟨hv, _, hwd⟩ := runE_zero.1 h0
    unfold runV; rw [if_pos h0, hv.fin]
    exact runN_lt hv (by have := hv.s0; have := hv.s1; omega) _ hwd
  refine T.region ?_
  refine TO.quiet (q_move rfl) ?_
  by_cases h0 : ((runE d l : Nat) : Int) = 0
  · refine TO.quiet (QT.toB (q_eql rfl rfl) (decide_eq_true h0)) ?_
    refine TO.quiet (q_move rfl) ?_
    refine TO.guarded rfl rfl rfl (LT.of_quiet rfl rfl (q_fieldAddr Tryd.underlying25 rfl inf23 rfl rfl) ?_)
    refine TO.guarded rfl rfl rfl (LT.of_quiet rfl rfl (q_load_box 0 Tryd.underlying23 rfl rfl rfl rfl) ?_)
    refine TO.guarded rfl rfl rfl (LT.of_quiet rfl rfl (q_move rfl) ?_)
    refine TO.guarded rfl rfl rfl (LT.of_quiet rfl rfl (q_ix (i := (runV d l)) Tryd.underlying23 inf4 rfl rfl (Sl.o h.final) (hfin (by omega)) (by rw [List.length_map]; exact hfin (by omega))) ?_)
    refine TO.guarded rfl rfl rfl (LT.of_quiet rfl rfl (q_ld Tryd.underlying4 rfl rfl (Sl.o h.final) (show (bools d.final)[runV d l]? = some (.bool (finN d (runV d l))) by rw [bools_get (hfin (by omega))]; simp [finN, hfin (by omega)])) ?_)
    refine TO.quiet (q_pick1 rfl rfl) (TO.quiet (q_move rfl) (TO.quiet (q_assign rfl) (TO.quiet (q_assign rfl) ?_)))
    refine TO.nil (T.ret (Res.drop ?_))
    refine Res.two (.bool (finN d (runV d l))) (.int .i64 ((runE d l : Nat) : Int)) Tryd.results19 rfl rfl ?_
    have h9 : runE d l = 0 := by omega
    exact ⟨[], Sub.of (List.nil_sublist _), by unfold accV runV; rw [if_pos h9, if_pos h9], rfl⟩
  refine TO.quiet (QT.toB (q_eql rfl rfl) (decide_eq_false h0)) (TO.quiet (q_move rfl) ?_)
  refine TO.passed rfl rfl ?_
  refine TO.passed rfl rfl ?_
  refine TO.passed rfl rfl ?_
  refine TO.passed rfl rfl ?_
  refine TO.passed rfl rfl ?_
  refine TO.quiet (q_pick0 rfl rfl) (TO.quiet (q_move rfl) (TO.quiet (q_assign rfl) (TO.quiet (q_assign rfl) ?_)))
  refine TO.nil (T.ret (Res.drop ?_))
  refine Res.two (.bool false) (.int .i64 ((runE d l : Nat) : Int)) Tryd.results19 rfl rfl ?_
  have h9 : ¬ runE d l = 0 := by omega
  exact ⟨[], Sub.of (List.nil_sublist _), by unfold accV; rw [if_neg h9], rfl⟩
end Go.Proofs.YtdaapdamcekkgaaDoor
