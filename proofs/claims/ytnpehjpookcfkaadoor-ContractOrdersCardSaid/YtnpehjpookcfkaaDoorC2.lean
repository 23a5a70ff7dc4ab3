/- Contracts of functions of the program (P2, P3, P4, P5, C1, C2): what each call answers and that it leaves memory as it was. Conditions: those each theorem names. -/
import Derived.Test.YtnpehjpookcfkaaDoorDR
import Derived.Test.YtnpehjpookcfkaaDoorP1
import Derived.Test.YtnpehjpookcfkaaDoorFacts
set_option linter.unusedSectionVars false
set_option linter.unusedSimpArgs false
set_option linter.unusedVariables false
set_option linter.unnecessarySimpa false
namespace Go.Proofs.YtnpehjpookcfkaaDoor
open Go.Lx Go.RowKit
set_option linter.unusedVariables false
set_option linter.unusedSimpArgs false
theorem pvS (base : World) [Tab Tryd.prog base] (f : Bool → Bool → Bool) (a b : DFA) (j k : DK) (bp m i o x : Nat) (qb : Option Addr) (qc : Nat) (va : Valid a) (vb : Valid b) (hv : a.vars = b.vars) (hq : (bfsN (prodD f a b) i)[i]? = some o) (hx : x < 2 ^ a.vars.toNat) :
    CallT Tryd.prog base 80 [.pointer (some ⟨bp, 0, none⟩), (.agg #[.int .i64 (((toN (prodD f a b) o x) / b.next.length : Nat) : Int), .int .i64 (((toN (prodD f a b) o x) % b.next.length : Nat) : Int)])] [objI bp (.cells (List.toArray [(.int .i64 a.vars), (.int .i64 a.start), (.slice j.nb a.next.length j.nc), (.slice j.fb a.final.length j.fc), (.int .i64 b.vars), (.int .i64 b.start), (.slice k.nb b.next.length k.nc), (.slice k.fb b.final.length k.fc), (.slice qb ((bfsM (prodD f a b) i o x).length) qc), (.map (some m))]) 116 (0, 0)), rowI qb qc 112 2 (prs b.next.length (bfsM (prodD f a b) i o x)), mapI pairV (fun n : Nat => Value.int .i64 (n : Int)) m (pmap b.next.length (bfsM (prodD f a b) i o x))] (fun v O' => v = .int .i64 ((ix (toN (prodD f a b) o x) (order (prodD f a b)) : Nat) : Int) ∧ ∃ qb' qc', O' = [objI bp (.cells (List.toArray [(.int .i64 a.vars), (.int .i64 a.start), (.slice j.nb a.next.length j.nc), (.slice j.fb a.final.length j.fc), (.int .i64 b.vars), (.int .i64 b.start), (.slice k.nb b.next.length k.nc), (.slice k.fb b.final.length k.fc), (.slice qb' ((bfsM (prodD f a b) i o (x + 1)).length) qc'), (.map (some m))]) 116 (0, 0)), rowI qb' qc' 112 2 (prs b.next.length (bfsM (prodD f a b) i o (x + 1))), mapI pairV (fun n : Nat => Value.int .i64 (n : Int)) m (pmap b.next.length (bfsM (prodD f a b) i o (x + 1)))]) := by
  have ho := (pr_bfs_ok (f := f) va vb hv i).2 o (List.mem_of_getElem? hq)
  have hil := (List.getElem?_eq_some_iff.1 hq).1
  have hbl := pr_bfs_len (f := f) va vb hv i
  have hml := pr_bfsM_len (f := f) va vb hv (i := i) ho (Nat.le_of_lt hx)
  have h4 : a.next.length * b.next.length ≤ 4096 * 4096 := Nat.mul_le_mul va.n4 vb.n4
  rw [bfsM_step]
  refine (pvC base a b j k bp m (bfsM (prodD f a b) i o x) (toN (prodD f a b) o x) qb qc (by omega)).mono ?_
  rintro v O' ⟨rfl, h⟩
  refine ⟨?_, h⟩
  rw [← bfsM_step, visit_old hq (x := x + 1) hx (by rw [prod_len]; omega) (by rw [bfsM_step]; exact mem_add.2 (.inr rfl))]
set_option maxHeartbeats 1000000 in
set_option maxRecDepth 20000 in
theorem pairs1 (base : World) [Tab Tryd.prog base] (f : Bool → Bool → Bool) (a b : DFA) (j k : DK) (ha : At base a j) (hb : At base b k) (va : Valid a) (vb : Valid b) (hv : a.vars = b.vars) (L : Nat) (hL : 2 ^ a.vars.toNat = L) (bx bp m : Nat) (qb0 : Option Addr) (qc0 : Nat) (yv : Value) (J : Nat → List Lx.Item → Prop) (Q : List Lx.Item → Prop)
    (hy : ∀ (i o : Nat) (qb : Option Addr) (qc rb : Nat) (O : List Lx.Item), (bfsN (prodD f a b) i)[i]? = some o → J i O → CallV Tryd.prog base yv [(.agg #[.int .i64 ((o / b.next.length : Nat) : Int), .int .i64 ((o % b.next.length : Nat) : Int)]), .slice (some ⟨rb, 0, none⟩) L L] (O ++ [oI bp 116 [(.int .i64 a.vars), (.int .i64 a.start), (.slice j.nb a.next.length j.nc), (.slice j.fb a.final.length j.fc), (.int .i64 b.vars), (.int .i64 b.start), (.slice k.nb b.next.length k.nc), (.slice k.fb b.final.length k.fc), (.slice qb ((bfsN (prodD f a b) (i + 1)).length) qc), (.map (some m))], rowI qb qc 112 2 (prs b.next.length (bfsN (prodD f a b) (i + 1))), mapI pairV (fun n : Nat => Value.int .i64 (n : Int)) m (pmap b.next.length (bfsN (prodD f a b) (i + 1))), rowI (some ⟨rb, 0, none⟩) L 3 1 (ints (rnR (prodD f a b) o))])
      (fun v O' => (v = .bool true ∧ ∃ O2, O' = O2 ++ [oI bp 116 [(.int .i64 a.vars), (.int .i64 a.start), (.slice j.nb a.next.length j.nc), (.slice j.fb a.final.length j.fc), (.int .i64 b.vars), (.int .i64 b.start), (.slice k.nb b.next.length k.nc), (.slice k.fb b.final.length k.fc), (.slice qb ((bfsN (prodD f a b) (i + 1)).length) qc), (.map (some m))], rowI qb qc 112 2 (prs b.next.length (bfsN (prodD f a b) (i + 1))), mapI pairV (fun n : Nat => Value.int .i64 (n : Int)) m (pmap b.next.length (bfsN (prodD f a b) (i + 1)))] ∧ J (i + 1) O2) ∨ (v = .bool false ∧ Q O')))
    (O : List Lx.Item) (h0 : J 0 O) :
    CallT Tryd.prog base 79 [yv, .pointer (some ⟨bx, 0, none⟩)] ([oI bx 105 [(.pointer (some ⟨bp, 0, none⟩))], oI bp 116 [(.int .i64 a.vars), (.int .i64 a.start), (.slice j.nb a.next.length j.nc), (.slice j.fb a.final.length j.fc), (.int .i64 b.vars), (.int .i64 b.start), (.slice k.nb b.next.length k.nc), (.slice k.fb b.final.length k.fc), (.slice qb0 ((bfsN (prodD f a b) 0).length) qc0), (.map (some m))], rowI qb0 qc0 112 2 (prs b.next.length (bfsN (prodD f a b) 0)), mapI pairV (fun n : Nat => Value.int .i64 (n : Int)) m (pmap b.next.length (bfsN (prodD f a b) 0))] ++ O) (fun _ O' => (∃ N qb qc O2, O' = O2 ++ [oI bp 116 [(.int .i64 a.vars), (.int .i64 a.start), (.slice j.nb a.next.length j.nc), (.slice j.fb a.final.length j.fc), (.int .i64 b.vars), (.int .i64 b.start), (.slice k.nb b.next.length k.nc), (.slice k.fb b.final.length k.fc), (.slice qb ((bfsN (prodD f a b) N).length) qc), (.map (some m))], rowI qb qc 112 2 (prs b.next.length (bfsN (prodD f a b) N)), mapI pairV (fun n : Nat => Value.int .i64 (n : Int)) m (pmap b.next.length (bfsN (prodD f a b) N))] ∧ (bfsN (prodD f a b) N).length = N ∧ J N O2) ∨ Q O') := by
  refine CallT.enter Tryd.func79 rfl Tryd.ntmps79 rfl ?_
  have h4 : a.next.length * b.next.length ≤ 4096 * 4096 := Nat.mul_le_mul va.n4 vb.n4
  have hw : L ≤ 64 := by rw [← hL]; exact va.width
  have ha1 := ha.rows.1
  have hb1 := hb.rows.1
  refine T.seq (T.region ?_)
  refine TO.quiet (q_assign rfl) ?_
  refine TO.nil (T.block ?_)
  refine T.loop (fun (i : Nat) ρ O => ∃ (qb : Option Addr) (qc : Nat) (O1 : List Lx.Item), O = ([oI bx 105 [(.pointer (some ⟨bp, 0, none⟩))], oI bp 116 [(.int .i64 a.vars), (.int .i64 a.start), (.slice j.nb a.next.length j.nc), (.slice j.fb a.final.length j.fc), (.int .i64 b.vars), (.int .i64 b.start), (.slice k.nb b.next.length k.nc), (.slice k.fb b.final.length k.fc), (.slice qb ((bfsN (prodD f a b) i).length) qc), (.map (some m))], rowI qb qc 112 2 (prs b.next.length (bfsN (prodD f a b) i)), mapI pairV (fun n : Nat => Value.int .i64 (n : Int)) m (pmap b.next.length (bfsN (prodD f a b) i))] ++ O1) ∧ i ≤ (bfsN (prodD f a b) i).length ∧ J i O1 ∧ Heads [(0, yv), (1, (.pointer (some ⟨bx, 0, none⟩))), (3, .int .i64 ((i : Nat) : Int))] ρ) (fun i => a.next.length * b.next.length - i) 0 ?_ ?_
  · exact ⟨qb0, qc0, O, rfl, Nat.zero_le _, h0, ⟨rfl, rfl, rfl, trivial⟩⟩
  rintro i ρ O ⟨qb, qc, O1, rfl, hle, hJ, hH⟩
  obtain ⟨ρ0, rfl⟩ := hH.elim
  clear hH
  have hbl := pr_bfs_len (f := f) va vb hv i
  refine T.seq (T.seq (T.region ?_))
  refine TO.quiet (q_move rfl) (TO.quiet (q_load_box 0 Tryd.underlying105 rfl rfl rfl rfl) (TO.quiet (q_nilCheck rfl) (TO.quiet (q_fieldAddr Tryd.underlying116 rfl inf113 rfl rfl) ?_)))
  refine TO.quiet (q_load_box 1 Tryd.underlying113 rfl rfl rfl rfl) (TO.quiet (q_len Tryd.underlying113 rfl) (TO.quiet (q_lss rfl rfl) ?_))
  refine TO.nil ?_
  refine T.condP rfl (fun hc => ?_) (fun hc => ?_)
  · have hlt13 : i < (bfsN (prodD f a b) i).length := by omega
    obtain ⟨o, hq⟩ : ∃ o, (bfsN (prodD f a b) i)[i]? = some o := ⟨_, List.getElem?_eq_getElem hlt13⟩
    have ho := (pr_bfs_ok (f := f) va vb hv i).2 o (List.mem_of_getElem? hq)
    obtain ⟨hs, ht⟩ := pr_split ho
    obtain ⟨v1, c1, g1, s1⟩ := ha.rows.get hs
    obtain ⟨v2, c2, g2, s2⟩ := hb.rows.get ht
    refine T.skip (T.seq (T.block (T.seq (T.region ?_))))
    refine TO.quiet (q_load_box 0 Tryd.underlying105 rfl rfl rfl rfl) (TO.quiet (q_nilCheck rfl) (TO.quiet (q_fieldAddr Tryd.underlying116 rfl inf113 rfl rfl) (TO.quiet (q_load_box 1 Tryd.underlying113 rfl rfl rfl rfl) ?_)))
    refine TO.quiet (q_move rfl) (TO.quiet (q_ixK (i := i) Tryd.underlying113 inf112 rfl rfl (rowO (List.mem_of_getElem? (i := 2) rfl)) hlt13 (by rw [prs_len]; omega)) (TO.quiet (q_ldK (vs := [.int .i64 ((o / b.next.length : Nat) : Int), .int .i64 ((o % b.next.length : Nat) : Int)]) Tryd.underlying112 rfl inf112 rfl rfl (Nat.succ_pos _) (rowO (List.mem_of_getElem? (i := 2) rfl)) (prs_get hq)) ?_))
    refine TO.loud rfl (l_alloc inf112 rfl (fun z1 => ?_))
    refine TO.loud rfl (l_store_box (v := (.agg #[.int .i64 ((o / b.next.length : Nat) : Int), .int .i64 ((o % b.next.length : Nat) : Int)])) (vs := [.int .i64 ((o / b.next.length : Nat) : Int), .int .i64 ((o % b.next.length : Nat) : Int)]) 0 inf112 rfl rfl rfl rfl rfl rfl (by simp [putL]) ?_)
    refine TO.nil (T.seq (T.region ?_))
    refine TO.quiet (q_load_box 1 Tryd.underlying105 rfl rfl rfl rfl) (TO.quiet (q_nilCheck rfl) (TO.quiet (q_fieldAddr Tryd.underlying116 rfl inf25 rfl rfl) (TO.quiet (q_fieldAddr Tryd.underlying25 rfl inf3 rfl rfl) ?_)))
    refine TO.quiet (q_load_box 2 Tryd.underlying3 rfl rfl rfl rfl) (TO.quiet (QT.cast (q_shl1 (v := a.vars.toNat) rfl (by show Value.int _ a.vars = _; rw [Int.toNat_of_nonneg va.v0]) (by have := va.v6; omega)) (v' := .int .i64 ((L : Nat) : Int)) (by rw [hL])) ?_)
    refine TO.loud rfl (l_makeSlice (m := L) Tryd.underlying54 inf3 rfl rfl (by omega) (by omega) (fun z2 => ?_))
    refine TO.quiet (q_assign rfl) ?_
    refine TO.nil (T.seq (T.seq (T.region ?_)))
    refine TO.quiet (q_move rfl) (TO.quiet (q_len Tryd.underlying54 rfl) (TO.quiet (q_move rfl) ?_))
    refine TO.nil (T.block ?_)
    refine T.sub (O' := ([oI bp 116 [(.int .i64 a.vars), (.int .i64 a.start), (.slice j.nb a.next.length j.nc), (.slice j.fb a.final.length j.fc), (.int .i64 b.vars), (.int .i64 b.start), (.slice k.nb b.next.length k.nc), (.slice k.fb b.final.length k.fc), (.slice qb ((bfsN (prodD f a b) i).length) qc), (.map (some m))], rowI qb qc 112 2 (prs b.next.length (bfsN (prodD f a b) i)), mapI pairV (fun n : Nat => Value.int .i64 (n : Int)) m (pmap b.next.length (bfsN (prodD f a b) i)), rowI (some ⟨z2, 0, none⟩) L 3 1 (List.replicate L (.int .i64 0)), oI z1 112 [.int .i64 ((o / b.next.length : Nat) : Int), .int .i64 ((o % b.next.length : Nat) : Int)], oI bx 105 [(.pointer (some ⟨bp, 0, none⟩))]] ++ O1)) (by exact Sub.pull [rowI (some ⟨z2, 0, none⟩) L 3 1 (List.replicate L (.int .i64 0)), oI z1 112 [.int .i64 ((o / b.next.length : Nat) : Int), .int .i64 ((o % b.next.length : Nat) : Int)], oI bx 105 [(.pointer (some ⟨bp, 0, none⟩))]] _ (.pull [rowI (some ⟨z2, 0, none⟩) L 3 1 (List.replicate L (.int .i64 0)), oI z1 112 [.int .i64 ((o / b.next.length : Nat) : Int), .int .i64 ((o % b.next.length : Nat) : Int)], oI bx 105 [(.pointer (some ⟨bp, 0, none⟩))]] _ (.pull [rowI (some ⟨z2, 0, none⟩) L 3 1 (List.replicate L (.int .i64 0)), oI z1 112 [.int .i64 ((o / b.next.length : Nat) : Int), .int .i64 ((o % b.next.length : Nat) : Int)], oI bx 105 [(.pointer (some ⟨bp, 0, none⟩))]] _ (.k (.k (.k .rf)))))) ?_
    refine T.loop (fun (x : Nat) ρ O => ∃ (qbm : Option Addr) (qcm : Nat) (ys : List Nat), O = ([oI bp 116 [(.int .i64 a.vars), (.int .i64 a.start), (.slice j.nb a.next.length j.nc), (.slice j.fb a.final.length j.fc), (.int .i64 b.vars), (.int .i64 b.start), (.slice k.nb b.next.length k.nc), (.slice k.fb b.final.length k.fc), (.slice qbm ((bfsM (prodD f a b) i o x).length) qcm), (.map (some m))], rowI qbm qcm 112 2 (prs b.next.length (bfsM (prodD f a b) i o x)), mapI pairV (fun n : Nat => Value.int .i64 (n : Int)) m (pmap b.next.length (bfsM (prodD f a b) i o x)), rowI (some ⟨z2, 0, none⟩) L 3 1 (nats ys), oI z1 112 [.int .i64 ((o / b.next.length : Nat) : Int), .int .i64 ((o % b.next.length : Nat) : Int)], oI bx 105 [(.pointer (some ⟨bp, 0, none⟩))]] ++ O1) ∧ x ≤ L ∧ ys.length = L ∧ (∀ y, y < x → ys[y]? = some (ix (toN (prodD f a b) o y) (order (prodD f a b)))) ∧ Heads [(0, yv), (1, (.pointer (some ⟨bx, 0, none⟩))), (3, .int .i64 ((i : Nat) : Int)), (4, (.pointer (some ⟨z1, 0, none⟩))), (5, (.slice (some ⟨z2, 0, none⟩) L L)), (31, .int .i64 (L : Int)), (32, .int .i64 ((x : Nat) : Int))] ρ) (fun x => L - x) 0 ?_ ?_
    · refine ⟨qb, qc, List.replicate L 0, ?_, Nat.zero_le _, by simp, fun y hy9 => absurd hy9 (by omega), ⟨rfl, rfl, rfl, rfl, rfl, rfl, rfl, trivial⟩⟩
      rw [show List.replicate L (Value.int .i64 0) = nats (List.replicate L 0) by simp]; rfl
    rintro x ρ O ⟨qbm, qcm, ys, rfl, hx, hyl, hys, hH⟩
    obtain ⟨ρ0, rfl⟩ := hH.elim
    clear hH
    refine T.seq (T.region ?_)
    refine TO.quiet (q_lss rfl rfl) ?_
    refine TO.nil (T.seq ?_)
    refine T.condP rfl (fun hc => ?_) (fun hc => ?_)
    · have hlt33 : x < L := by omega
      have hxa : x < 2 ^ a.vars.toNat := by omega
      have hxb : x < 2 ^ b.vars.toNat := by rw [← hv]; exact hxa
      obtain ⟨t1, _, x1, d1⟩ := va.toN_lt hs hxa
      obtain ⟨t2, _, x2, d2⟩ := vb.toN_lt ht hxb
      have hst := (pr_toN_lt (f := f) va vb hv ho hxa).1
      have hdm := pr_div (n := b.next.length) (s := toN a (o / b.next.length) x) t2
      rw [← hst] at hdm
      have hx1 : (ints a.next[o / b.next.length])[x]? = some (.int .i64 ((toN (prodD f a b) o x / b.next.length : Nat) : Int)) := by rw [ints_get x1, d1, hdm.1]
      have hx2 : (ints b.next[o % b.next.length])[x]? = some (.int .i64 ((toN (prodD f a b) o x % b.next.length : Nat) : Int)) := by rw [ints_get x2, d2, hdm.2]
      refine T.skip (T.seq (T.block (T.seq (T.region ?_))))
      refine TO.quiet (q_move rfl) (TO.quiet (q_assign rfl) ?_)
      refine TO.nil ?_
      refine T.draws2 [] [oI bp 116 [(.int .i64 a.vars), (.int .i64 a.start), (.slice j.nb a.next.length j.nc), (.slice j.fb a.final.length j.fc), (.int .i64 b.vars), (.int .i64 b.start), (.slice k.nb b.next.length k.nc), (.slice k.fb b.final.length k.fc), (.slice qbm ((bfsM (prodD f a b) i o x).length) qcm), (.map (some m))], oI z1 112 [.int .i64 ((o / b.next.length : Nat) : Int), .int .i64 ((o % b.next.length : Nat) : Int)], oI bx 105 [(.pointer (some ⟨bp, 0, none⟩))]] [(0, 0), (1, 0), (2, 3), (3, 3), (4, 3), (5, 3), (6, 3), (7, 3), (8, 3), (9, 3), (10, 3), (11, 3), (12, 3), (13, 3), (14, 3), (15, 3), (16, 3), (17, 3), (18, 3), (19, 3), (20, 3), (21, 3), (22, 3), (23, 3), (24, 3), (25, 3), (26, 3), (27, 3), (28, 4), (29, 2), (30, 2)] mixed (by kernel_rfl) (Sub.of (List.nil_sublist _)) (by exact Sub.k (.d (.d (.d (.k (.k .z)))))) (fun _ _ _ h => h) ?_
      refine DO.quiet rfl (q_move rfl) (DO.quiet rfl (q_move rfl) ?_)
      refine DO.quiet2 rfl (q_load_box 2 Tryd.underlying105 rfl rfl rfl rfl) ?_
      refine DO.quiet2 rfl (q_load_box 2 Tryd.underlying105 rfl rfl rfl rfl) ?_
      refine DO.quiet2 rfl (q_nilCheck rfl) ?_
      refine DO.quiet2 rfl (q_fieldAddr Tryd.underlying116 rfl inf25 rfl rfl) ?_
      refine DO.quiet2 rfl (q_fieldAddr Tryd.underlying25 rfl inf22 rfl rfl) ?_
      refine DO.quiet2 rfl (q_load_box 0 Tryd.underlying22 rfl rfl rfl rfl) ?_
      refine DO.quiet2 rfl (q_fieldAddr Tryd.underlying112 rfl inf3 rfl rfl) ?_
      refine DO.quiet2 rfl (q_load_box 1 Tryd.underlying3 rfl rfl rfl rfl) ?_
      refine DO.quiet2 rfl (q_ix (i := (o / b.next.length)) Tryd.underlying22 inf54 rfl rfl (Sl.o ha.outer) hs (by rw [ha1]; exact hs)) ?_
      refine DO.quiet2 rfl (q_ld Tryd.underlying54 rfl rfl (Sl.o ha.outer) g1) ?_
      refine DO.quiet2 rfl (q_move rfl) ?_
      refine DO.quiet2 rfl (q_ix (i := x) Tryd.underlying54 inf3 rfl rfl (Sl.o s1) x1 (by rw [List.length_map]; exact x1)) ?_
      refine DO.quiet2 rfl (q_ld Tryd.underlying3 rfl rfl (Sl.o s1) hx1) ?_
      refine DO.quiet2 rfl (q_load_box 2 Tryd.underlying105 rfl rfl rfl rfl) ?_
      refine DO.quiet2 rfl (q_nilCheck rfl) ?_
      refine DO.quiet2 rfl (q_fieldAddr Tryd.underlying116 rfl inf25 rfl rfl) ?_
      refine DO.quiet2 rfl (q_fieldAddr Tryd.underlying25 rfl inf22 rfl rfl) ?_
      refine DO.quiet2 rfl (q_load_box 0 Tryd.underlying22 rfl rfl rfl rfl) ?_
      refine DO.quiet2 rfl (q_fieldAddr Tryd.underlying112 rfl inf3 rfl rfl) ?_
      refine DO.quiet2 rfl (q_load_box 1 Tryd.underlying3 rfl rfl rfl rfl) ?_
      refine DO.quiet2 rfl (q_ix (i := (o % b.next.length)) Tryd.underlying22 inf54 rfl rfl (Sl.o hb.outer) ht (by rw [hb1]; exact ht)) ?_
      refine DO.quiet2 rfl (q_ld Tryd.underlying54 rfl rfl (Sl.o hb.outer) g2) ?_
      refine DO.quiet2 rfl (q_move rfl) ?_
      refine DO.quiet2 rfl (q_ix (i := x) Tryd.underlying54 inf3 rfl rfl (Sl.o s2) x2 (by rw [List.length_map]; exact x2)) ?_
      refine DO.quiet2 rfl (q_ld Tryd.underlying3 rfl rfl (Sl.o s2) hx2) ?_
      refine DO.quiet2 rfl (q_build (cs := [.int .i64 (((toN (prodD f a b) o x) / b.next.length : Nat) : Int), .int .i64 (((toN (prodD f a b) o x) % b.next.length : Nat) : Int)]) plan112 inf112 (by kernel_rfl)) ?_
      have hk63 := CallT.under (B := ([rowI (some ⟨z2, 0, none⟩) L 3 1 (nats ys), oI z1 112 [.int .i64 ((o / b.next.length : Nat) : Int), .int .i64 ((o % b.next.length : Nat) : Int)], oI bx 105 [(.pointer (some ⟨bp, 0, none⟩))]] ++ O1)) (O := ([oI bp 116 [(.int .i64 a.vars), (.int .i64 a.start), (.slice j.nb a.next.length j.nc), (.slice j.fb a.final.length j.fc), (.int .i64 b.vars), (.int .i64 b.start), (.slice k.nb b.next.length k.nc), (.slice k.fb b.final.length k.fc), (.slice qbm ((bfsM (prodD f a b) i o x).length) qcm), (.map (some m))], rowI qbm qcm 112 2 (prs b.next.length (bfsM (prodD f a b) i o x)), mapI pairV (fun n : Nat => Value.int .i64 (n : Int)) m (pmap b.next.length (bfsM (prodD f a b) i o x)), rowI (some ⟨z2, 0, none⟩) L 3 1 (nats ys), oI z1 112 [.int .i64 ((o / b.next.length : Nat) : Int), .int .i64 ((o % b.next.length : Nat) : Int)], oI bx 105 [(.pointer (some ⟨bp, 0, none⟩))]] ++ O1)) (pvS base f a b j k bp m i o x qbm qcm va vb hv hq (by omega)) (by exact Sub.rf)
      refine DO.last2 rfl rfl (l_call ent80 hk63 rfl ?_)
      clear hk63
      rintro vr O' ⟨A1, rfl, rfl, qb2, qc2, rfl⟩
      refine ⟨by exact Sub.z, ?_⟩
      refine DO.last rfl rfl (LT.of_quiet rfl rfl (q_ix (i := x) Tryd.underlying54 inf3 rfl rfl (rowO (List.mem_of_getElem? (i := 3) rfl))) ?_)
      refine DO.last rfl rfl (l_st (j := x) (v := .int .i64 ((ix (toN (prodD f a b) o x) (order (prodD f a b)) : Nat) : Int)) (vs := [(.int .i64 ((ix (toN (prodD f a b) o x) (order (prodD f a b)) : Nat) : Int))]) (cs := nats ys) 3 inf3 rfl rfl rfl rfl rfl (by simp) rfl (by first | (simp; omega) | (simp_all; omega)) ?_)
      refine DO.sub (O' := ([oI bp 116 [(.int .i64 a.vars), (.int .i64 a.start), (.slice j.nb a.next.length j.nc), (.slice j.fb a.final.length j.fc), (.int .i64 b.vars), (.int .i64 b.start), (.slice k.nb b.next.length k.nc), (.slice k.fb b.final.length k.fc), (.slice qb2 ((bfsM (prodD f a b) i o (x + 1)).length) qc2), (.map (some m))], rowI qb2 qc2 112 2 (prs b.next.length (bfsM (prodD f a b) i o (x + 1))), mapI pairV (fun n : Nat => Value.int .i64 (n : Int)) m (pmap b.next.length (bfsM (prodD f a b) i o (x + 1))), rowI (some ⟨z2, 0, none⟩) L 3 1 (nats (ys.set x (ix (toN (prodD f a b) o x) (order (prodD f a b))))), oI z1 112 [.int .i64 ((o / b.next.length : Nat) : Int), .int .i64 ((o % b.next.length : Nat) : Int)], oI bx 105 [(.pointer (some ⟨bp, 0, none⟩))]] ++ O1)) (by rw [show putL (nats ys) x [(.int .i64 ((ix (toN (prodD f a b) o x) (order (prodD f a b)) : Nat) : Int))] = nats (ys.set x (ix (toN (prodD f a b) o x) (order (prodD f a b)))) from by simp [putL]]; exact Sub.of (List.Sublist.refl _)) ?_
      refine DO.done ?_
      refine T.region ?_
      refine TO.quiet (q_addN (a := x) (b := 1) rfl rfl (by omega)) (TO.quiet (q_move rfl) ?_)
      refine TO.nil ?_
      refine ⟨x + 1, by omega, qb2, qc2, ys.set x (ix (toN (prodD f a b) o x) (order (prodD f a b))), rfl, by omega, by simp [hyl], fun y hy9 => ?_, ⟨rfl, rfl, rfl, rfl, rfl, rfl, rfl, trivial⟩⟩
      by_cases e : y = x
      · subst e; rw [List.getElem?_set_self (by omega)]
      · rw [List.getElem?_set_ne (fun h => e h.symm)]; exact hys y (by omega)
    have hge33 : ¬ x < L := by omega
    refine T.exit ?_
    refine T.seq ?_
    have hxe : x = L := by omega
    have e1 : bfsN (prodD f a b) (i + 1) = bfsM (prodD f a b) i o x := by rw [hxe, ← hL]; exact (bfsM_full hq).symm
    have e3 : renRow (prodD f a b) o = ys := by
      apply List.ext_getElem?
      intro y
      by_cases hy9 : y < L
      · rw [hys y (by omega)]
        have hy8 : y < 2 ^ (prodD f a b).vars.toNat := by show y < 2 ^ a.vars.toNat; omega
        unfold renRow
        rw [List.getElem?_map, sucs_get hy8]; rfl
      · rw [List.getElem?_eq_none (by rw [renRow_length]; show 2 ^ a.vars.toNat ≤ y; omega), List.getElem?_eq_none (by omega)]
    have e2 : ints (rnR (prodD f a b) o) = nats ys := by unfold rnR; rw [e3]; simp [Function.comp_def]
    refine T.sub (O' := ([oI bp 116 [(.int .i64 a.vars), (.int .i64 a.start), (.slice j.nb a.next.length j.nc), (.slice j.fb a.final.length j.fc), (.int .i64 b.vars), (.int .i64 b.start), (.slice k.nb b.next.length k.nc), (.slice k.fb b.final.length k.fc), (.slice qbm ((bfsN (prodD f a b) (i + 1)).length) qcm), (.map (some m))], rowI qbm qcm 112 2 (prs b.next.length (bfsN (prodD f a b) (i + 1))), mapI pairV (fun n : Nat => Value.int .i64 (n : Int)) m (pmap b.next.length (bfsN (prodD f a b) (i + 1))), rowI (some ⟨z2, 0, none⟩) L 3 1 (ints (rnR (prodD f a b) o)), oI z1 112 [.int .i64 ((o / b.next.length : Nat) : Int), .int .i64 ((o % b.next.length : Nat) : Int)], oI bx 105 [(.pointer (some ⟨bp, 0, none⟩))]] ++ O1)) (by rw [e1, e2]; exact Sub.rf) ?_
    refine T.region ?_
    refine TO.quiet (q_move rfl) (TO.quiet (q_load_boxAgg 4 Tryd.underlying112 rfl inf112 rfl rfl rfl) (TO.quiet (q_move rfl) ?_))
    have hk69 := CallV.under (B := [oI z1 112 [.int .i64 ((o / b.next.length : Nat) : Int), .int .i64 ((o % b.next.length : Nat) : Int)], oI bx 105 [(.pointer (some ⟨bp, 0, none⟩))]]) (O := ([oI bp 116 [(.int .i64 a.vars), (.int .i64 a.start), (.slice j.nb a.next.length j.nc), (.slice j.fb a.final.length j.fc), (.int .i64 b.vars), (.int .i64 b.start), (.slice k.nb b.next.length k.nc), (.slice k.fb b.final.length k.fc), (.slice qbm ((bfsN (prodD f a b) (i + 1)).length) qcm), (.map (some m))], rowI qbm qcm 112 2 (prs b.next.length (bfsN (prodD f a b) (i + 1))), mapI pairV (fun n : Nat => Value.int .i64 (n : Int)) m (pmap b.next.length (bfsN (prodD f a b) (i + 1))), rowI (some ⟨z2, 0, none⟩) L 3 1 (ints (rnR (prodD f a b) o)), oI z1 112 [.int .i64 ((o / b.next.length : Nat) : Int), .int .i64 ((o % b.next.length : Nat) : Int)], oI bx 105 [(.pointer (some ⟨bp, 0, none⟩))]] ++ O1)) (hy i o qbm qcm z2 O1 hq hJ) (Sub.cnt [] (by intro a; simp only [itms, oI, List.set_cons_zero, List.set_cons_succ, putL, List.cons_append, List.nil_append, List.append_nil, List.append_assoc, List.map_append, List.map_cons, List.map_nil, cnt_append, cnt_cons, cnt_nil] <;> omega))
    refine TO.loud rfl (l_callG hk69 rfl rfl ?_)
    clear hk69
    rintro vr O' ⟨A1, rfl, ⟨rfl, O2, rfl, hJ2⟩ | ⟨rfl, hQ2⟩⟩
    · refine TO.quiet (q_not rfl) ?_
      refine TO.nil ?_
      refine T.cond0 rfl ?_
      refine T.skip ?_
      refine T.sub (O' := ([oI bx 105 [(.pointer (some ⟨bp, 0, none⟩))], oI bp 116 [(.int .i64 a.vars), (.int .i64 a.start), (.slice j.nb a.next.length j.nc), (.slice j.fb a.final.length j.fc), (.int .i64 b.vars), (.int .i64 b.start), (.slice k.nb b.next.length k.nc), (.slice k.fb b.final.length k.fc), (.slice qbm ((bfsN (prodD f a b) (i + 1)).length) qcm), (.map (some m))], rowI qbm qcm 112 2 (prs b.next.length (bfsN (prodD f a b) (i + 1))), mapI pairV (fun n : Nat => Value.int .i64 (n : Int)) m (pmap b.next.length (bfsN (prodD f a b) (i + 1)))] ++ O2)) (Sub.cnt [oI z1 112 [.int .i64 ((o / b.next.length : Nat) : Int), .int .i64 ((o % b.next.length : Nat) : Int)]] (by intro a; simp only [itms, oI, List.set_cons_zero, List.set_cons_succ, putL, List.cons_append, List.nil_append, List.append_nil, List.append_assoc, List.map_append, List.map_cons, List.map_nil, cnt_append, cnt_cons, cnt_nil] <;> omega)) ?_
      refine T.region ?_
      refine TO.quiet (q_move rfl) (TO.quiet (q_addN (a := i) (b := 1) rfl rfl (by omega)) (TO.quiet (q_assign rfl) ?_))
      refine TO.nil ?_
      have hpl := (bfsN_prefix (prodD f a b) i (i + 1) (by omega)).length_le
      exact ⟨i + 1, by omega, qbm, qcm, O2, rfl, by omega, hJ2, ⟨rfl, rfl, rfl, trivial⟩⟩
    refine TO.quiet (q_not rfl) ?_
    refine TO.nil ?_
    refine T.cond1 rfl ?_
    refine T.ret (Res.drop ?_)
    refine Res.zero Tryd.results79 ?_
    exact ⟨A1, Sub.of (List.sublist_append_left _ _), .inr hQ2⟩
  have hge13 : ¬ i < (bfsN (prodD f a b) i).length := by omega
  refine T.exit ?_
  refine Res.drop ?_
  refine Res.zero Tryd.results79 ?_
  have hN : (bfsN (prodD f a b) i).length = i := by omega
  exact ⟨O1 ++ [oI bp 116 [(.int .i64 a.vars), (.int .i64 a.start), (.slice j.nb a.next.length j.nc), (.slice j.fb a.final.length j.fc), (.int .i64 b.vars), (.int .i64 b.start), (.slice k.nb b.next.length k.nc), (.slice k.fb b.final.length k.fc), (.slice qb ((bfsN (prodD f a b) i).length) qc), (.map (some m))], rowI qb qc 112 2 (prs b.next.length (bfsN (prodD f a b) i)), mapI pairV (fun n : Nat => Value.int .i64 (n : Int)) m (pmap b.next.length (bfsN (prodD f a b) i))], Sub.cnt [oI bx 105 [(.pointer (some ⟨bp, 0, none⟩))]] (by intro a; simp only [itms, oI, List.set_cons_zero, List.set_cons_succ, putL, List.cons_append, List.nil_append, List.append_nil, List.append_assoc, List.map_append, List.map_cons, List.map_nil, cnt_append, cnt_cons, cnt_nil] <;> omega), .inl ⟨i, qb, qc, O1, rfl, hN, hJ⟩⟩
end Go.Proofs.YtnpehjpookcfkaaDoor

namespace Go.Proofs.YtnpehjpookcfkaaDoor
open Go.Lx Go.RowKit
set_option linter.unusedVariables false
set_option linter.unusedSimpArgs false
theorem minK (w : World) [Tab Tryd.prog w] (d : DFA) (k : DK) (h : At w d k) (hb : d.next.length < 9223372036854775807) (hbr : ∀ r ∈ d.next, r.length < 9223372036854775807) (hbf : d.final.length < 9223372036854775807) (hn : Valid d → d.next.length < 10000) :
    PureT Tryd.prog 17 [dV d k] w fun v N => ∃ k' : DK, v = .tuple #[dV (minV d) k', .int .i64 (checkD d : Int)] ∧ N = [dI 54 4 3 (minV d) k'] :=
  CallT.dk (g := fun x => .tuple #[x, .int .i64 (checkD d : Int)]) (minA w d k.nb k.fb k.nc k.fc (vals k.qs) h hb hbr hbf hn)
theorem minKE (w : World) [Tab Tryd.prog w] (d : DFA) (k : DK) (h : At w d k) (hv : Valid d) (hn : d.next.length < 10000) {M : DFA} (hM : minD d = M) :
    PureT Tryd.prog 17 [dV d k] w fun v N => ∃ k' : DK, v = .tuple #[dV M k', .int .i64 0] ∧ N = [dI 54 4 3 M k'] := by
  have h1 := minK w d k h (by have := hv.n4; omega) hv.bound (by have := hv.fin; have := hv.n4; omega) (fun _ => hn)
  rw [minV_valid hv, hM, checkD_zero.2 hv] at h1
  exact h1
set_option maxHeartbeats 1000000 in
set_option maxRecDepth 20000 in
theorem notF (base : World) (x y : Bool) : CallT Tryd.prog base 73 [.bool x, .bool y] [] (fun v O' => v = .bool (notB x y) ∧ O' = []) := by
  refine CallT.enter Tryd.func73 rfl Tryd.ntmps73 rfl ?_
  refine T.seq (T.region ?_)
  refine TO.quiet (q_assign rfl) ?_
  refine TO.nil (T.seq (T.region ?_))
  refine TO.quiet (q_move rfl) (TO.quiet (q_not rfl) (TO.quiet (q_assign rfl) ?_))
  refine TO.nil (T.ret ?_)
  refine Res.one (.bool (!x)) Tryd.results73 rfl ?_
  cases x <;> cases y <;> first | exact ⟨rfl, rfl⟩ | (exfalso; simp_all; done) | simp_all [andB, orB, xorB, minusB, notB]
set_option maxRecDepth 20000 in
theorem notFV (base : World) (x y : Bool) : CallV Tryd.prog base (.func (.func 73) #[] #[]) [.bool x, .bool y] [] (fun v O' => v = .bool (notB x y) ∧ O' = []) := CallV.of_fn (first := []) (caps := []) ent73 (notF base x y)
set_option maxHeartbeats 1000000 in
set_option maxRecDepth 20000 in
theorem andF (base : World) (x y : Bool) : CallT Tryd.prog base 48 [.bool x, .bool y] [] (fun v O' => v = .bool (andB x y) ∧ O' = []) := by
  refine CallT.enter Tryd.func48 rfl Tryd.ntmps48 rfl ?_
  refine T.seq (T.region ?_)
  refine TO.quiet (q_assign rfl) ?_
  refine TO.nil (T.seq (T.region ?_))
  refine TO.quiet (q_move rfl) ?_
  by_cases hs6 : x = true
  · refine TO.quiet (QT.toB (q_move rfl) (hs6)) ?_
    refine TO.guarded rfl rfl rfl (LT.of_quiet rfl rfl (q_move rfl) ?_)
    refine TO.quiet (q_pick1 rfl rfl) (TO.quiet (q_assign rfl) ?_)
    refine TO.nil (T.ret ?_)
    refine Res.one (.bool y) Tryd.results48 rfl ?_
    cases x <;> cases y <;> first | exact ⟨rfl, rfl⟩ | (exfalso; simp_all; done) | simp_all [andB, orB, xorB, minusB, notB]
  refine TO.quiet (QT.toB (q_move rfl) (Bool.eq_false_iff.2 hs6)) ?_
  refine TO.passed rfl rfl ?_
  refine TO.quiet (q_pick0 rfl rfl) (TO.quiet (q_assign rfl) ?_)
  refine TO.nil (T.ret ?_)
  refine Res.one (.bool false) Tryd.results48 rfl ?_
  cases x <;> cases y <;> first | exact ⟨rfl, rfl⟩ | (exfalso; simp_all; done) | simp_all [andB, orB, xorB, minusB, notB]
set_option maxRecDepth 20000 in
theorem andFV (base : World) (x y : Bool) : CallV Tryd.prog base (.func (.func 48) #[] #[]) [.bool x, .bool y] [] (fun v O' => v = .bool (andB x y) ∧ O' = []) := CallV.of_fn (first := []) (caps := []) ent48 (andF base x y)
set_option maxHeartbeats 1000000 in
set_option maxRecDepth 20000 in
theorem orF (base : World) (x y : Bool) : CallT Tryd.prog base 54 [.bool x, .bool y] [] (fun v O' => v = .bool (orB x y) ∧ O' = []) := by
  refine CallT.enter Tryd.func54 rfl Tryd.ntmps54 rfl ?_
  refine T.seq (T.region ?_)
  refine TO.quiet (q_assign rfl) ?_
  refine TO.nil (T.seq (T.region ?_))
  refine TO.quiet (q_move rfl) ?_
  by_cases hs6 : x = true
  · refine TO.quiet (QT.toB (q_move rfl) (hs6)) ?_
    refine TO.passed rfl rfl ?_
    refine TO.quiet (q_pick1 rfl rfl) (TO.quiet (q_assign rfl) ?_)
    refine TO.nil (T.ret ?_)
    refine Res.one (.bool true) Tryd.results54 rfl ?_
    cases x <;> cases y <;> first | exact ⟨rfl, rfl⟩ | (exfalso; simp_all; done) | simp_all [andB, orB, xorB, minusB, notB]
  refine TO.quiet (QT.toB (q_move rfl) (Bool.eq_false_iff.2 hs6)) ?_
  refine TO.guarded rfl rfl rfl (LT.of_quiet rfl rfl (q_move rfl) ?_)
  refine TO.quiet (q_pick0 rfl rfl) (TO.quiet (q_assign rfl) ?_)
  refine TO.nil (T.ret ?_)
  refine Res.one (.bool y) Tryd.results54 rfl ?_
  cases x <;> cases y <;> first | exact ⟨rfl, rfl⟩ | (exfalso; simp_all; done) | simp_all [andB, orB, xorB, minusB, notB]
set_option maxRecDepth 20000 in
theorem orFV (base : World) (x y : Bool) : CallV Tryd.prog base (.func (.func 54) #[] #[]) [.bool x, .bool y] [] (fun v O' => v = .bool (orB x y) ∧ O' = []) := CallV.of_fn (first := []) (caps := []) ent54 (orF base x y)
set_option maxHeartbeats 1000000 in
set_option maxRecDepth 20000 in
theorem minusF (base : World) (x y : Bool) : CallT Tryd.prog base 52 [.bool x, .bool y] [] (fun v O' => v = .bool (minusB x y) ∧ O' = []) := by
  refine CallT.enter Tryd.func52 rfl Tryd.ntmps52 rfl ?_
  refine T.seq (T.region ?_)
  refine TO.quiet (q_assign rfl) ?_
  refine TO.nil (T.seq (T.region ?_))
  refine TO.quiet (q_move rfl) ?_
  by_cases hs6 : x = true
  · refine TO.quiet (QT.toB (q_move rfl) (hs6)) ?_
    refine TO.guarded rfl rfl rfl (LT.of_quiet rfl rfl (q_move rfl) ?_)
    refine TO.guarded rfl rfl rfl (LT.of_quiet rfl rfl (q_not rfl) ?_)
    refine TO.quiet (q_pick1 rfl rfl) (TO.quiet (q_assign rfl) ?_)
    refine TO.nil (T.ret ?_)
    refine Res.one (.bool (!y)) Tryd.results52 rfl ?_
    cases x <;> cases y <;> first | exact ⟨rfl, rfl⟩ | (exfalso; simp_all; done) | simp_all [andB, orB, xorB, minusB, notB]
  refine TO.quiet (QT.toB (q_move rfl) (Bool.eq_false_iff.2 hs6)) ?_
  refine TO.passed rfl rfl ?_
  refine TO.passed rfl rfl ?_
  refine TO.quiet (q_pick0 rfl rfl) (TO.quiet (q_assign rfl) ?_)
  refine TO.nil (T.ret ?_)
  refine Res.one (.bool false) Tryd.results52 rfl ?_
  cases x <;> cases y <;> first | exact ⟨rfl, rfl⟩ | (exfalso; simp_all; done) | simp_all [andB, orB, xorB, minusB, notB]
set_option maxRecDepth 20000 in
theorem minusFV (base : World) (x y : Bool) : CallV Tryd.prog base (.func (.func 52) #[] #[]) [.bool x, .bool y] [] (fun v O' => v = .bool (minusB x y) ∧ O' = []) := CallV.of_fn (first := []) (caps := []) ent52 (minusF base x y)
set_option maxHeartbeats 1000000 in
set_option maxRecDepth 20000 in
theorem combineBad (w : World) [Tab Tryd.prog w] (a b : DFA) (j k : DK) (ha : At w a j) (hb : At w b k) (haa : a.next.length < 9223372036854775807) (haar : ∀ r ∈ a.next, r.length < 9223372036854775807) (haaf : a.final.length < 9223372036854775807) (hbb : b.next.length < 9223372036854775807) (hbbr : ∀ r ∈ b.next, r.length < 9223372036854775807) (hbbf : b.final.length < 9223372036854775807) (g : Nat) (he : wrongD a b ≠ 0) :
    PureT Tryd.prog 47 [dV a j, dV b k, .func (.func g) #[] #[]] w fun v N => v = .tuple #[dV noD ⟨none, 0, none, 0, []⟩, .int .i64 (wrongD a b : Int)] ∧ N = [] := by
  refine CallT.enter Tryd.func47 rfl Tryd.ntmps47 rfl ?_
  refine T.seq (T.region ?_)
  refine TO.loud rfl (l_box (v := (dV a j)) (cs := (dC a j)) rfl rfl (fun bx1 => ?_))
  refine TO.loud rfl (l_box (v := (dV b k)) (cs := (dC b k)) rfl rfl (fun bx2 => ?_))
  refine TO.loud rfl (l_box (v := (.func (.func g) #[] #[])) (cs := [(.func (.func g) #[] #[])]) rfl rfl (fun bx3 => ?_))
  refine TO.loud rfl (l_alloc inf25 rfl (fun bx4 => ?_))
  refine TO.loud rfl (l_alloc inf33 rfl (fun bx5 => ?_))
  refine TO.nil (T.seq (T.region ?_))
  refine TO.quiet (q_load_boxAgg 4 Tryd.underlying25 rfl inf25 rfl rfl rfl) (TO.quiet (q_load_boxAgg 3 Tryd.underlying25 rfl inf25 rfl rfl rfl) ?_)
  have hk16 := fun (w1 : World) (hI : Inv w [oI bx5 33 [(.int .i64 0)], oI bx4 25 [(.int .i64 0), (.int .i64 0), (.slice none 0 0), (.slice none 0 0)], oI bx3 82 [(.func (.func g) #[] #[])], oI bx2 25 (dC b k), oI bx1 25 (dC a j)] w1) => (haveI := Inv.tab (P := Tryd.prog) hI; beginBad w1 a b j k (hI.atB ha) (hI.atB hb) haa haar haaf hbb hbbr hbbf he)
  refine TO.loud rfl (l_call ent67 (CallT.of_pure hk16) rfl ?_)
  clear hk16
  rintro vr O' ⟨N, rfl, rfl, rfl⟩
  refine TO.quiet (q_move rfl) (TO.quiet (q_extract (vs := _) rfl rfl) (TO.quiet (q_extract (vs := _) rfl rfl) ?_))
  refine TO.loud rfl (l_alloc inf105 rfl (fun bx6 => ?_))
  refine TO.loud rfl (l_store_box (v := .pointer none) (vs := [(.pointer none)]) 0 inf105 rfl rfl rfl rfl rfl rfl (by simp [putL]) ?_)
  refine TO.quiet (q_assign rfl) ?_
  refine TO.nil (T.seq (T.seq (T.region ?_)))
  refine TO.quiet (q_move rfl) (TO.quiet (q_neq rfl rfl) ?_)
  refine TO.nil ?_
  refine T.cond1 (congrArg Value.bool (decide_eq_true (by omega))) ?_
  refine T.seq (T.region ?_)
  refine TO.quiet (q_build plan25 inf25 rfl) (TO.quiet (q_move rfl) ?_)
  refine TO.loud rfl (l_store_box (v := (.agg #[(.int .i64 0), (.int .i64 0), (.slice none 0 0), (.slice none 0 0)])) (vs := [(.int .i64 0), (.int .i64 0), (.slice none 0 0), (.slice none 0 0)]) 2 inf25 rfl rfl rfl rfl rfl rfl (by simp [putL]) ?_)
  refine TO.loud rfl (l_store_box (v := .int .i64 (wrongD a b : Int)) (vs := [(.int .i64 (wrongD a b : Int))]) 1 inf33 rfl rfl rfl rfl rfl rfl (by simp [putL]) ?_)
  refine TO.nil (T.ret (Res.drop ?_))
  refine Res.cell2a (i := 2) (j := 1) Tryd.results47 Tryd.underlying25 rfl inf25 Tryd.underlying33 rfl rfl rfl rfl rfl rfl ?_
  exact ⟨[], Sub.z, rfl, rfl⟩
set_option maxHeartbeats 1000000 in
set_option maxRecDepth 20000 in
theorem combineW (w : World) [Tab Tryd.prog w] (a b : DFA) (j k : DK) (ha : At w a j) (hb : At w b k) (va : Valid a) (vb : Valid b) (hv : a.vars = b.vars) (f : Bool → Bool → Bool) (g : Nat) (hf : ∀ (base : World) (x y : Bool), CallV Tryd.prog base (.func (.func g) #[] #[]) [.bool x, .bool y] [] (fun v O' => v = .bool (f x y) ∧ O' = [])) (hN8 : (order (prodD f a b)).length ≤ 4096) :
    PureT Tryd.prog 47 [dV a j, dV b k, .func (.func g) #[] #[]] w fun v N => ∃ k' : DK, v = .tuple #[dV (opD f a b) k', .int .i64 0] ∧ N = [dI 54 4 3 (opD f a b) k'] := by
  refine CallT.enter Tryd.func47 rfl Tryd.ntmps47 rfl ?_
  have h4 : a.next.length * b.next.length ≤ 4096 * 4096 := Nat.mul_le_mul va.n4 vb.n4
  obtain ⟨L, hL⟩ : ∃ L, 2 ^ a.vars.toNat = L := ⟨_, rfl⟩
  have hw : L ≤ 64 := by rw [← hL]; exact va.width
  refine T.seq (T.region ?_)
  refine TO.loud rfl (l_box (v := (dV a j)) (cs := (dC a j)) rfl rfl (fun z1 => ?_))
  refine TO.loud rfl (l_box (v := (dV b k)) (cs := (dC b k)) rfl rfl (fun z2 => ?_))
  refine TO.loud rfl (l_box (v := (.func (.func g) #[] #[])) (cs := [(.func (.func g) #[] #[])]) rfl rfl (fun z3 => ?_))
  refine TO.loud rfl (l_alloc inf25 rfl (fun z4 => ?_))
  refine TO.loud rfl (l_alloc inf33 rfl (fun z5 => ?_))
  refine TO.nil (T.seq (T.region ?_))
  refine TO.quiet (q_load_boxAgg 4 Tryd.underlying25 rfl inf25 rfl rfl rfl) (TO.quiet (q_load_boxAgg 3 Tryd.underlying25 rfl inf25 rfl rfl rfl) ?_)
  have hk16 := fun (w1 : World) (hI : Inv w [oI z5 33 [(.int .i64 0)], oI z4 25 [(.int .i64 0), (.int .i64 0), (.slice none 0 0), (.slice none 0 0)], oI z3 82 [(.func (.func g) #[] #[])], oI z2 25 (dC b k), oI z1 25 (dC a j)] w1) => (haveI := Inv.tab (P := Tryd.prog) hI; beginOk w1 a b j k (hI.atB ha) (hI.atB hb) va vb hv)
  refine TO.loud rfl (l_call ent67 (CallT.of_pure hk16) rfl ?_)
  clear hk16
  rintro vr O' ⟨N, rfl, bp, qb, m, rfl, rfl⟩
  refine TO.quiet (q_move rfl) (TO.quiet (q_extract (vs := _) rfl rfl) (TO.quiet (q_extract (vs := _) rfl rfl) ?_))
  refine TO.loud rfl (l_alloc inf105 rfl (fun z6 => ?_))
  refine TO.loud rfl (l_store_box (v := (.pointer (some ⟨bp, 0, none⟩))) (vs := [(.pointer (some ⟨bp, 0, none⟩))]) 0 inf105 rfl rfl rfl rfl rfl rfl (by simp [putL]) ?_)
  refine TO.quiet (q_assign rfl) ?_
  refine TO.nil (T.seq (T.seq (T.region ?_)))
  refine TO.quiet (q_move rfl) (TO.quiet (q_neq rfl rfl) ?_)
  refine TO.nil ?_
  refine T.cond0 rfl ?_
  refine T.skip (T.seq (T.region ?_))
  refine TO.quiet (q_fieldAddr Tryd.underlying25 rfl inf3 rfl rfl) (TO.quiet (q_load_box 8 Tryd.underlying3 rfl rfl rfl rfl) (TO.quiet (q_build (cs := [(.int .i64 a.vars), (.int .i64 0), (.slice none 0 0), (.slice none 0 0)]) plan25 inf25 (by kernel_rfl)) ?_))
  refine TO.loud rfl (l_alloc inf25 rfl (fun z7 => ?_))
  refine TO.loud rfl (l_store_box (v := (.agg #[(.int .i64 a.vars), (.int .i64 0), (.slice none 0 0), (.slice none 0 0)])) (vs := [(.int .i64 a.vars), (.int .i64 0), (.slice none 0 0), (.slice none 0 0)]) 0 inf25 rfl rfl rfl rfl rfl rfl (by simp [putL]) ?_)
  refine TO.nil (T.seq (T.seq ?_))
  refine T.nilRow 4 1 ?_
  refine T.nilRow 54 1 ?_
  refine T.region ?_
  refine TO.quiet (q_load_box 3 Tryd.underlying105 rfl rfl rfl rfl) ?_
  have hk27 := fun (w1 : World) (hI : Inv w [rowI none 0 54 1 (vals []), rowI none 0 4 1 (bools []), oI z7 25 [(.int .i64 a.vars), (.int .i64 0), (.slice none 0 0), (.slice none 0 0)], oI z6 105 [(.pointer (some ⟨bp, 0, none⟩))], oI bp 116 [(.int .i64 a.vars), (.int .i64 a.start), (.slice j.nb a.next.length j.nc), (.slice j.fb a.final.length j.fc), (.int .i64 b.vars), (.int .i64 b.start), (.slice k.nb b.next.length k.nc), (.slice k.fb b.final.length k.fc), (.slice (some ⟨qb, 0, none⟩) ([a.start.toNat * b.next.length + b.start.toNat].length) 1), (.map (some m))], rowI (some ⟨qb, 0, none⟩) 1 112 2 (prs b.next.length [a.start.toNat * b.next.length + b.start.toNat]), mapI pairV (fun n : Nat => Value.int .i64 (n : Int)) m (pmap b.next.length [a.start.toNat * b.next.length + b.start.toNat]), oI z5 33 [(.int .i64 0)], oI z4 25 [(.int .i64 0), (.int .i64 0), (.slice none 0 0), (.slice none 0 0)], oI z3 82 [(.func (.func g) #[] #[])], oI z2 25 (dC b k), oI z1 25 (dC a j)] w1) => (haveI := Inv.tab (P := Tryd.prog) hI; pairsF w1 bp)
  refine TO.loud rfl (l_call ent68 (CallT.of_pure hk27) rfl ?_)
  clear hk27
  rintro vr O' ⟨N, rfl, bP, rfl, rfl⟩
  refine TO.nil (T.block ?_)
  refine T.rangeFunc (first := []) (caps := [(.pointer (some ⟨bP, 0, none⟩))]) rfl ent79 (fun yl yq yhq => ?_)
  refine CallT.mono (CallT.sub (O' := oI bP 105 [(.pointer (some ⟨bp, 0, none⟩))] :: oI bp 116 [(.int .i64 a.vars), (.int .i64 a.start), (.slice j.nb a.next.length j.nc), (.slice j.fb a.final.length j.fc), (.int .i64 b.vars), (.int .i64 b.start), (.slice k.nb b.next.length k.nc), (.slice k.fb b.final.length k.fc), (.slice (some ⟨qb, 0, none⟩) ([a.start.toNat * b.next.length + b.start.toNat].length) 1), (.map (some m))] :: rowI (some ⟨qb, 0, none⟩) 1 112 2 (prs b.next.length [a.start.toNat * b.next.length + b.start.toNat]) :: mapI pairV (fun n : Nat => Value.int .i64 (n : Int)) m (pmap b.next.length [a.start.toNat * b.next.length + b.start.toNat]) :: (objI yl (lp yq none) :: [rowI none 0 54 1 (vals []), rowI none 0 4 1 (bools []), oI z7 25 [(.int .i64 a.vars), (.int .i64 0), (.slice none 0 0), (.slice none 0 0)], oI z6 105 [(.pointer (some ⟨bp, 0, none⟩))], oI z5 33 [(.int .i64 0)], oI z4 25 [(.int .i64 0), (.int .i64 0), (.slice none 0 0), (.slice none 0 0)], oI z3 82 [(.func (.func g) #[] #[])], oI z2 25 (dC b k), oI z1 25 (dC a j)])) (Sub.pick [1, 5, 5, 5, 0, 0, 0, 0, 0, 0, 0, 0, 0, 0] rfl) (pairs1 w f a b j k ha hb va vb hv L hL bP bp m (some ⟨qb, 0, none⟩) 1 (.func (.yield yl) #[] #[]) (fun i O => ∃ (nbm fbm : Option Addr) (ncm fcm n1 n2 : Nat) (qs : List Rec) (fs : List Bool), O = objI yl (lp yq none) :: ([rowI nbm ncm 54 1 (vals qs), rowI fbm fcm 4 1 (bools fs), oI z7 25 [(.int .i64 a.vars), (.int .i64 0), (.slice nbm n1 ncm), (.slice fbm n2 fcm)], oI z6 105 [(.pointer (some ⟨bp, 0, none⟩))], oI z5 33 [(.int .i64 0)], oI z4 25 [(.int .i64 0), (.int .i64 0), (.slice none 0 0), (.slice none 0 0)], oI z3 82 [(.func (.func g) #[] #[])], oI z2 25 (dC b k), oI z1 25 (dC a j)] ++ (itms 3 qs)) ∧ n1 = i ∧ n2 = i ∧ qs.length = i ∧ fs.length = i ∧ nums qs = ((order (prodD f a b)).take i).map (rnR (prodD f a b)) ∧ fs = ((order (prodD f a b)).take i).map (finN (prodD f a b))) (fun _ => False) ?_ _ ?_)) ?_
  · intro i o qb qc rb O hq hJ
    obtain ⟨nbm, fbm, ncm, fcm, n1, n2, qs, fs, rfl, hn1, hn2, hql, hfl, hqs, hfs⟩ := hJ
    refine CallV.yield yhq rfl rfl ?_
    refine T.sub (O' := ([rowI nbm ncm 54 1 (vals qs), rowI fbm fcm 4 1 (bools fs), oI z7 25 [(.int .i64 a.vars), (.int .i64 0), (.slice nbm n1 ncm), (.slice fbm n2 fcm)], oI z6 105 [(.pointer (some ⟨bp, 0, none⟩))], oI z5 33 [(.int .i64 0)], oI z4 25 [(.int .i64 0), (.int .i64 0), (.slice none 0 0), (.slice none 0 0)], oI z3 82 [(.func (.func g) #[] #[])], oI z2 25 (dC b k), oI z1 25 (dC a j), oI bp 116 [(.int .i64 a.vars), (.int .i64 a.start), (.slice j.nb a.next.length j.nc), (.slice j.fb a.final.length j.fc), (.int .i64 b.vars), (.int .i64 b.start), (.slice k.nb b.next.length k.nc), (.slice k.fb b.final.length k.fc), (.slice qb ((bfsN (prodD f a b) (i + 1)).length) qc), (.map (some m))], rowI qb qc 112 2 (prs b.next.length (bfsN (prodD f a b) (i + 1))), mapI pairV (fun n : Nat => Value.int .i64 (n : Int)) m (pmap b.next.length (bfsN (prodD f a b) (i + 1))), rowI (some ⟨rb, 0, none⟩) L 3 1 (ints (rnR (prodD f a b) o))] ++ itms 3 qs)) (by exact Sub.swap3 [rowI nbm ncm 54 1 (vals qs), rowI fbm fcm 4 1 (bools fs), oI z7 25 [(.int .i64 a.vars), (.int .i64 0), (.slice nbm n1 ncm), (.slice fbm n2 fcm)], oI z6 105 [(.pointer (some ⟨bp, 0, none⟩))], oI z5 33 [(.int .i64 0)], oI z4 25 [(.int .i64 0), (.int .i64 0), (.slice none 0 0), (.slice none 0 0)], oI z3 82 [(.func (.func g) #[] #[])], oI z2 25 (dC b k), oI z1 25 (dC a j)] [oI bp 116 [(.int .i64 a.vars), (.int .i64 a.start), (.slice j.nb a.next.length j.nc), (.slice j.fb a.final.length j.fc), (.int .i64 b.vars), (.int .i64 b.start), (.slice k.nb b.next.length k.nc), (.slice k.fb b.final.length k.fc), (.slice qb ((bfsN (prodD f a b) (i + 1)).length) qc), (.map (some m))], rowI qb qc 112 2 (prs b.next.length (bfsN (prodD f a b) (i + 1))), mapI pairV (fun n : Nat => Value.int .i64 (n : Int)) m (pmap b.next.length (bfsN (prodD f a b) (i + 1))), rowI (some ⟨rb, 0, none⟩) L 3 1 (ints (rnR (prodD f a b) o))] (itms 3 qs)) ?_
    have hbl := pr_bfs_len (f := f) va vb hv i
    have hil := (List.getElem?_eq_some_iff.1 hq).1
    have ho := (pr_bfs_ok (f := f) va vb hv i).2 o (List.mem_of_getElem? hq)
    obtain ⟨hs, ht⟩ := pr_split ho
    have hoa := bfs_at hq (by rw [prod_len]; omega)
    have hfa : (bools a.final)[o / b.next.length]? = some (.bool (finN a (o / b.next.length))) := by
      have hl : o / b.next.length < a.final.length := by rw [va.fin]; exact hs
      rw [bools_get hl]; unfold finN; rw [List.getD_eq_getElem?_getD, List.getElem?_eq_getElem hl]; rfl
    have hfb : (bools b.final)[o % b.next.length]? = some (.bool (finN b (o % b.next.length))) := by
      have hl : o % b.next.length < b.final.length := by rw [vb.fin]; exact ht
      rw [bools_get hl]; unfold finN; rw [List.getD_eq_getElem?_getD, List.getElem?_eq_getElem hl]; rfl
    have hrl : (rnR (prodD f a b) o).length = L := by unfold rnR; rw [List.length_map, renRow_length]; exact hL
    have hvq : vals (qs ++ [⟨some ⟨rb, 0, none⟩, L, rnR (prodD f a b) o⟩]) = vals qs ++ [.slice (some ⟨rb, 0, none⟩) L L] := by simp [Rec.val, hrl]
    have hbq : bools (fs ++ [f (finN a (o / b.next.length)) (finN b (o % b.next.length))]) = bools fs ++ [.bool (f (finN a (o / b.next.length)) (finN b (o % b.next.length)))] := by simp
    have hbl2 := pr_bfs_len (f := f) va vb hv (i + 1)
    have hlt9 : (bfsN (prodD f a b) (i + 1)).length ≤ 4096 := Nat.le_trans (bfsN_prefix (prodD f a b) (i + 1) (prodD f a b).next.length (by rw [prod_len]; omega)).length_le hN8
    refine T.seq (T.region ?_)
    refine TO.loud rfl (l_alloc inf112 rfl (fun z8 => ?_))
    refine TO.loud rfl (l_store_box (v := (.agg #[.int .i64 ((o / b.next.length : Nat) : Int), .int .i64 ((o % b.next.length : Nat) : Int)])) (vs := [.int .i64 ((o / b.next.length : Nat) : Int), .int .i64 ((o % b.next.length : Nat) : Int)]) 0 inf112 rfl rfl rfl rfl rfl rfl (by simp [putL]) ?_)
    refine TO.nil (T.region ?_)
    refine TO.quiet (q_assign rfl) ?_
    refine TO.nil (T.block (T.seq (T.seq (T.region ?_))))
    refine TO.quiet (q_load_box 4 Tryd.underlying105 rfl rfl rfl rfl) (TO.quiet (q_nilCheck rfl) (TO.quiet (q_fieldAddr Tryd.underlying116 rfl inf113 rfl rfl) (TO.quiet (q_load_box 10 Tryd.underlying113 rfl rfl rfl rfl) ?_)))
    refine TO.quiet (q_len Tryd.underlying113 rfl) (TO.quiet (QT.toB (q_gtr rfl rfl) (decide_eq_false (by omega))) ?_)
    refine TO.nil ?_
    refine T.cond0 rfl ?_
    refine T.skip ?_
    refine T.draws [oI z8 112 [.int .i64 ((o / b.next.length : Nat) : Int), .int .i64 ((o % b.next.length : Nat) : Int)], oI z7 25 [(.int .i64 a.vars), (.int .i64 0), (.slice nbm n1 ncm), (.slice fbm n2 fcm)], oI z6 105 [(.pointer (some ⟨bp, 0, none⟩))], oI z5 33 [(.int .i64 0)], oI z4 25 [(.int .i64 0), (.int .i64 0), (.slice none 0 0), (.slice none 0 0)], oI z3 82 [(.func (.func g) #[] #[])], oI z2 25 (dC b k), oI z1 25 (dC a j), oI bp 116 [(.int .i64 a.vars), (.int .i64 a.start), (.slice j.nb a.next.length j.nc), (.slice j.fb a.final.length j.fc), (.int .i64 b.vars), (.int .i64 b.start), (.slice k.nb b.next.length k.nc), (.slice k.fb b.final.length k.fc), (.slice qb ((bfsN (prodD f a b) (i + 1)).length) qc), (.map (some m))]] [(0, 0), (1, 0), (2, 0), (5, 0), (6, 0), (7, 0), (8, 0), (9, 0), (10, 0), (11, 0), (12, 0), (13, 0), (14, 0), (15, 0), (16, 0), (17, 0), (18, 0), (19, 0), (3, 1), (4, 1), (23, 0), (20, 1), (21, 1), (22, 1), (24, 2), (25, 2), (26, 2)] mixed (by kernel_rfl) (by exact Sub.k (.d (.d (.k (.k (.k (.k (.k (.k (.k (.k .z))))))))))) (fun _ _ _ h => h) ?_
    refine DO.quiet rfl (q_fieldAddr Tryd.underlying25 rfl inf22 rfl rfl) (DO.quiet rfl (q_load_box 1 Tryd.underlying22 rfl rfl rfl rfl) (DO.quiet rfl (q_move rfl) (DO.quiet rfl (q_fieldAddr Tryd.underlying25 rfl inf23 rfl rfl) ?_)))
    refine DO.quiet rfl (q_load_box 1 Tryd.underlying23 rfl rfl rfl rfl) (DO.quiet rfl (q_load_box 5 Tryd.underlying82 rfl rfl rfl rfl) (DO.quiet rfl (q_fieldAddr Tryd.underlying25 rfl inf23 rfl rfl) (DO.quiet rfl (q_load_box 7 Tryd.underlying23 rfl rfl rfl rfl) ?_)))
    refine DO.quiet rfl (q_fieldAddr Tryd.underlying112 rfl inf3 rfl rfl) (DO.quiet rfl (q_load_box 0 Tryd.underlying3 rfl rfl rfl rfl) (DO.quiet rfl (q_ix (i := (o / b.next.length)) Tryd.underlying23 inf4 rfl rfl (Sl.o ha.final) (by rw [va.fin]; exact hs) (by rw [List.length_map, va.fin]; exact hs)) (DO.quiet rfl (q_ld Tryd.underlying4 rfl rfl (Sl.o ha.final) hfa) ?_)))
    refine DO.quiet rfl (q_fieldAddr Tryd.underlying25 rfl inf23 rfl rfl) (DO.quiet rfl (q_load_box 6 Tryd.underlying23 rfl rfl rfl rfl) (DO.quiet rfl (q_fieldAddr Tryd.underlying112 rfl inf3 rfl rfl) (DO.quiet rfl (q_load_box 0 Tryd.underlying3 rfl rfl rfl rfl) ?_)))
    refine DO.quiet rfl (q_ix (i := (o % b.next.length)) Tryd.underlying23 inf4 rfl rfl (Sl.o hb.final) (by rw [vb.fin]; exact ht) (by rw [List.length_map, vb.fin]; exact ht)) (DO.quiet rfl (q_ld Tryd.underlying4 rfl rfl (Sl.o hb.final) hfb) ?_)
    refine DO.loud rfl rfl (l_build1 (v := (.slice (some ⟨rb, 0, none⟩) L L)) Tryd.underlying22 inf54 rfl rfl rfl (fun z9 => ⟨by exact Sub.d (.k (.d (.d (.k (.k (.k (.k (.k (.k (.k (.k .z))))))))))), ?_⟩))
    refine DO.loud rfl rfl (l_append 2 Tryd.underlying22 Tryd.underlying22 inf54 rfl rfl rfl rfl (by simp; omega) (by decide) (Src.row (j := 0) rfl (by simp)) (by simp [oneB]) (by omega) (by decide) (by decide) (fun z10 zc11 => ⟨by exact Sub.d (.k (.d (.d (.k (.k (.k (.k (.k (.k (.k (.k .z))))))))))), ?_⟩))
    refine DO.quiet rfl (q_fieldAddr Tryd.underlying25 rfl inf22 rfl rfl) ?_
    have hk57 := CallV.under (B := ([rowI (some ⟨z9, 0, none⟩) 1 54 1 [(.slice (some ⟨rb, 0, none⟩) L L)], oI z8 112 [.int .i64 ((o / b.next.length : Nat) : Int), .int .i64 ((o % b.next.length : Nat) : Int)], rowI z10 zc11 54 1 ((vals qs) ++ [(.slice (some ⟨rb, 0, none⟩) L L)]), rowI fbm fcm 4 1 (bools fs), oI z7 25 [(.int .i64 a.vars), (.int .i64 0), (.slice nbm n1 ncm), (.slice fbm n2 fcm)], oI z6 105 [(.pointer (some ⟨bp, 0, none⟩))], oI z5 33 [(.int .i64 0)], oI z4 25 [(.int .i64 0), (.int .i64 0), (.slice none 0 0), (.slice none 0 0)], oI z3 82 [(.func (.func g) #[] #[])], oI z2 25 (dC b k), oI z1 25 (dC a j), oI bp 116 [(.int .i64 a.vars), (.int .i64 a.start), (.slice j.nb a.next.length j.nc), (.slice j.fb a.final.length j.fc), (.int .i64 b.vars), (.int .i64 b.start), (.slice k.nb b.next.length k.nc), (.slice k.fb b.final.length k.fc), (.slice qb ((bfsN (prodD f a b) (i + 1)).length) qc), (.map (some m))], rowI qb qc 112 2 (prs b.next.length (bfsN (prodD f a b) (i + 1))), mapI pairV (fun n : Nat => Value.int .i64 (n : Int)) m (pmap b.next.length (bfsN (prodD f a b) (i + 1))), rowI (some ⟨rb, 0, none⟩) L 3 1 (ints (rnR (prodD f a b) o))] ++ itms 3 qs)) (O := ([rowI (some ⟨z9, 0, none⟩) 1 54 1 [(.slice (some ⟨rb, 0, none⟩) L L)], oI z8 112 [.int .i64 ((o / b.next.length : Nat) : Int), .int .i64 ((o % b.next.length : Nat) : Int)], rowI z10 zc11 54 1 ((vals qs) ++ [(.slice (some ⟨rb, 0, none⟩) L L)]), rowI fbm fcm 4 1 (bools fs), oI z7 25 [(.int .i64 a.vars), (.int .i64 0), (.slice nbm n1 ncm), (.slice fbm n2 fcm)], oI z6 105 [(.pointer (some ⟨bp, 0, none⟩))], oI z5 33 [(.int .i64 0)], oI z4 25 [(.int .i64 0), (.int .i64 0), (.slice none 0 0), (.slice none 0 0)], oI z3 82 [(.func (.func g) #[] #[])], oI z2 25 (dC b k), oI z1 25 (dC a j), oI bp 116 [(.int .i64 a.vars), (.int .i64 a.start), (.slice j.nb a.next.length j.nc), (.slice j.fb a.final.length j.fc), (.int .i64 b.vars), (.int .i64 b.start), (.slice k.nb b.next.length k.nc), (.slice k.fb b.final.length k.fc), (.slice qb ((bfsN (prodD f a b) (i + 1)).length) qc), (.map (some m))], rowI qb qc 112 2 (prs b.next.length (bfsN (prodD f a b) (i + 1))), mapI pairV (fun n : Nat => Value.int .i64 (n : Int)) m (pmap b.next.length (bfsN (prodD f a b) (i + 1))), rowI (some ⟨rb, 0, none⟩) L 3 1 (ints (rnR (prodD f a b) o))] ++ (itms 3 qs))) (hf w (finN a (o / b.next.length)) (finN b (o % b.next.length))) (by exact Sub.rf)
    refine DO.loud rfl rfl (l_callG hk57 rfl rfl ?_)
    clear hk57
    rintro vr O' ⟨A1, rfl, rfl, rfl⟩
    refine ⟨by exact Sub.d (.k (.d (.d (.k (.k (.k (.k (.k (.k (.k (.k .z))))))))))), ?_⟩
    refine DO.loud rfl rfl (l_build1 (v := .bool (f (finN a (o / b.next.length)) (finN b (o % b.next.length)))) Tryd.underlying23 inf4 rfl rfl rfl (fun z12 => ⟨by exact Sub.d (.d (.k (.d (.d (.k (.k (.k (.k (.k (.k (.k (.k .z)))))))))))), ?_⟩))
    refine DO.loud rfl rfl (l_append 4 Tryd.underlying23 Tryd.underlying23 inf4 rfl rfl rfl rfl (by simp; omega) (by decide) (Src.row (j := 0) rfl (by simp)) (by simp [oneB]) (by omega) (by decide) (by decide) (fun z13 zc14 => ⟨by exact Sub.d (.d (.k (.d (.d (.k (.k (.k (.k (.k (.k (.k (.k .z)))))))))))), ?_⟩))
    refine DO.last rfl rfl (l_store_box (v := (.slice z10 (n1 + 1) zc11)) (vs := [(.slice z10 (n1 + 1) zc11)]) 5 inf22 rfl rfl rfl rfl rfl rfl (by simp [putL]) ?_)
    refine DO.last rfl rfl (LT.of_quiet rfl rfl (q_fieldAddr Tryd.underlying25 rfl inf23 rfl rfl) ?_)
    refine DO.last rfl rfl (l_store_box (v := (.slice z13 (n2 + 1) zc14)) (vs := [(.slice z13 (n2 + 1) zc14)]) 5 inf23 rfl rfl rfl rfl rfl rfl (by simp [putL]) ?_)
    refine DO.sub (O' := ([rowI z10 zc11 54 1 ((vals qs) ++ [(.slice (some ⟨rb, 0, none⟩) L L)]), rowI z13 zc14 4 1 ((bools fs) ++ [.bool (f (finN a (o / b.next.length)) (finN b (o % b.next.length)))]), oI z7 25 [(.int .i64 a.vars), (.int .i64 0), (.slice z10 (n1 + 1) zc11), (.slice z13 (n2 + 1) zc14)], oI z6 105 [(.pointer (some ⟨bp, 0, none⟩))], oI z5 33 [(.int .i64 0)], oI z4 25 [(.int .i64 0), (.int .i64 0), (.slice none 0 0), (.slice none 0 0)], oI z3 82 [(.func (.func g) #[] #[])], oI z2 25 (dC b k), oI z1 25 (dC a j), rowI (some ⟨rb, 0, none⟩) L 3 1 (ints (rnR (prodD f a b) o)), oI bp 116 [(.int .i64 a.vars), (.int .i64 a.start), (.slice j.nb a.next.length j.nc), (.slice j.fb a.final.length j.fc), (.int .i64 b.vars), (.int .i64 b.start), (.slice k.nb b.next.length k.nc), (.slice k.fb b.final.length k.fc), (.slice qb ((bfsN (prodD f a b) (i + 1)).length) qc), (.map (some m))], rowI qb qc 112 2 (prs b.next.length (bfsN (prodD f a b) (i + 1))), mapI pairV (fun n : Nat => Value.int .i64 (n : Int)) m (pmap b.next.length (bfsN (prodD f a b) (i + 1)))] ++ itms 3 qs)) (by exact Sub.d (.d (.d (.k (.k (.k (.k (.k (.k (.k (.k (.k (.pull [oI bp 116 [(.int .i64 a.vars), (.int .i64 a.start), (.slice j.nb a.next.length j.nc), (.slice j.fb a.final.length j.fc), (.int .i64 b.vars), (.int .i64 b.start), (.slice k.nb b.next.length k.nc), (.slice k.fb b.final.length k.fc), (.slice qb ((bfsN (prodD f a b) (i + 1)).length) qc), (.map (some m))], rowI qb qc 112 2 (prs b.next.length (bfsN (prodD f a b) (i + 1))), mapI pairV (fun n : Nat => Value.int .i64 (n : Int)) m (pmap b.next.length (bfsN (prodD f a b) (i + 1)))] _ (.k (.k (.k .rf)))))))))))))))) ?_
    refine DO.sub (O' := (([rowI z10 zc11 54 1 (vals (qs ++ [⟨some ⟨rb, 0, none⟩, L, rnR (prodD f a b) o⟩])), rowI z13 zc14 4 1 (bools (fs ++ [f (finN a (o / b.next.length)) (finN b (o % b.next.length))])), oI z7 25 [(.int .i64 a.vars), (.int .i64 0), (.slice z10 (n1 + 1) zc11), (.slice z13 (n2 + 1) zc14)], oI z6 105 [(.pointer (some ⟨bp, 0, none⟩))], oI z5 33 [(.int .i64 0)], oI z4 25 [(.int .i64 0), (.int .i64 0), (.slice none 0 0), (.slice none 0 0)], oI z3 82 [(.func (.func g) #[] #[])], oI z2 25 (dC b k), oI z1 25 (dC a j)] ++ itms 3 (qs ++ [⟨some ⟨rb, 0, none⟩, L, rnR (prodD f a b) o⟩])) ++ [oI bp 116 [(.int .i64 a.vars), (.int .i64 a.start), (.slice j.nb a.next.length j.nc), (.slice j.fb a.final.length j.fc), (.int .i64 b.vars), (.int .i64 b.start), (.slice k.nb b.next.length k.nc), (.slice k.fb b.final.length k.fc), (.slice qb ((bfsN (prodD f a b) (i + 1)).length) qc), (.map (some m))], rowI qb qc 112 2 (prs b.next.length (bfsN (prodD f a b) (i + 1))), mapI pairV (fun n : Nat => Value.int .i64 (n : Int)) m (pmap b.next.length (bfsN (prodD f a b) (i + 1)))])) (by rw [hvq, hbq]; exact Sub.fold [rowI z10 zc11 54 1 ((vals qs) ++ [(.slice (some ⟨rb, 0, none⟩) L L)]), rowI z13 zc14 4 1 ((bools fs) ++ [.bool (f (finN a (o / b.next.length)) (finN b (o % b.next.length)))]), oI z7 25 [(.int .i64 a.vars), (.int .i64 0), (.slice z10 (n1 + 1) zc11), (.slice z13 (n2 + 1) zc14)], oI z6 105 [(.pointer (some ⟨bp, 0, none⟩))], oI z5 33 [(.int .i64 0)], oI z4 25 [(.int .i64 0), (.int .i64 0), (.slice none 0 0), (.slice none 0 0)], oI z3 82 [(.func (.func g) #[] #[])], oI z2 25 (dC b k), oI z1 25 (dC a j)] (rowI (some ⟨rb, 0, none⟩) L 3 1 (ints (rnR (prodD f a b) o))) [oI bp 116 [(.int .i64 a.vars), (.int .i64 a.start), (.slice j.nb a.next.length j.nc), (.slice j.fb a.final.length j.fc), (.int .i64 b.vars), (.int .i64 b.start), (.slice k.nb b.next.length k.nc), (.slice k.fb b.final.length k.fc), (.slice qb ((bfsN (prodD f a b) (i + 1)).length) qc), (.map (some m))], rowI qb qc 112 2 (prs b.next.length (bfsN (prodD f a b) (i + 1))), mapI pairV (fun n : Nat => Value.int .i64 (n : Int)) m (pmap b.next.length (bfsN (prodD f a b) (i + 1)))] (itms 3 qs) _ (itms_snoc 3 qs ⟨some ⟨rb, 0, none⟩, L, rnR (prodD f a b) o⟩)) ?_
    refine DO.done ?_
    refine .inl ⟨rfl, _, rfl, z10, z13, zc11, zc14, n1 + 1, n2 + 1, qs ++ [⟨some ⟨rb, 0, none⟩, L, rnR (prodD f a b) o⟩], fs ++ [f (finN a (o / b.next.length)) (finN b (o % b.next.length))], rfl, by omega, by omega, by simp [hql], by simp [hfl], ?_, ?_⟩
    · rw [take_at hoa, List.map_append]
      show List.map Rec.xs (qs ++ [_]) = _
      rw [List.map_append, show List.map Rec.xs qs = _ from hqs]; rfl
    · rw [take_at hoa, List.map_append, hfs, ← pr_fin_at (f := f) ho]; rfl
  · refine ⟨none, none, 0, 0, 0, 0, [], [], rfl, rfl, rfl, rfl, rfl, by simp, by simp⟩
  rintro v O' (⟨N, qbF, qcF, O2, rfl, hN, nbm, fbm, ncm, fcm, n1, n2, qs, fs, rfl, hn1, hn2, hql, hfl, hqs, hfs⟩ | hF)
  rotate_left
  · exact hF.elim
  refine ⟨none, _, rfl, ?_⟩
  refine T.seq ?_
  refine T.sub (O' := ([rowI nbm ncm 54 1 (vals qs), rowI fbm fcm 4 1 (bools fs), oI z7 25 [(.int .i64 a.vars), (.int .i64 0), (.slice nbm n1 ncm), (.slice fbm n2 fcm)], oI z6 105 [(.pointer (some ⟨bp, 0, none⟩))], oI z5 33 [(.int .i64 0)], oI z4 25 [(.int .i64 0), (.int .i64 0), (.slice none 0 0), (.slice none 0 0)], oI z3 82 [(.func (.func g) #[] #[])], oI z2 25 (dC b k), oI z1 25 (dC a j)] ++ itms 3 qs)) (Sub.of (List.sublist_append_left _ _)) ?_
  have hor := pr_stop va vb hv hN
  have hol : (order (prodD f a b)).length = N := by rw [hor]; exact hN
  have e1 : nums qs = (renum (prodD f a b)).next := by rw [hqs, ← hol, List.take_length]; exact (renum_rows _).symm
  have e2 : fs = (renum (prodD f a b)).final := by rw [hfs, ← hol, List.take_length]; rfl
  obtain rfl : n1 = (renum (prodD f a b)).next.length := by rw [renum_rows, List.length_map]; omega
  obtain rfl : n2 = (renum (prodD f a b)).final.length := by rw [renum_fins, List.length_map]; omega
  subst e2
  have vD := prod_val (f := f) va.toVal vb.toVal hv
  have vR := renum_fit vD hN8
  refine T.sub (O' := ([rowI nbm ncm 54 1 (vals qs), rowI fbm fcm 4 1 (bools (renum (prodD f a b)).final), oI z7 25 [(.int .i64 (renum (prodD f a b)).vars), (.int .i64 (renum (prodD f a b)).start), (.slice nbm ((renum (prodD f a b)).next.length) ncm), (.slice fbm ((renum (prodD f a b)).final.length) fcm)], oI z6 105 [(.pointer (some ⟨bp, 0, none⟩))], oI z5 33 [(.int .i64 0)], oI z4 25 [(.int .i64 0), (.int .i64 0), (.slice none 0 0), (.slice none 0 0)], oI z3 82 [(.func (.func g) #[] #[])], oI z2 25 (dC b k), oI z1 25 (dC a j)] ++ itms 3 qs)) (by exact Sub.rf) ?_
  refine T.region ?_
  refine TO.quiet (q_load_boxAgg 2 Tryd.underlying25 rfl inf25 rfl rfl rfl) ?_
  have hk63 := fun (w1 : World) (hI : Inv w ([rowI nbm ncm 54 1 (vals qs), rowI fbm fcm 4 1 (bools (renum (prodD f a b)).final), oI z7 25 [(.int .i64 (renum (prodD f a b)).vars), (.int .i64 (renum (prodD f a b)).start), (.slice nbm ((renum (prodD f a b)).next.length) ncm), (.slice fbm ((renum (prodD f a b)).final.length) fcm)], oI z6 105 [(.pointer (some ⟨bp, 0, none⟩))], oI z5 33 [(.int .i64 0)], oI z4 25 [(.int .i64 0), (.int .i64 0), (.slice none 0 0), (.slice none 0 0)], oI z3 82 [(.func (.func g) #[] #[])], oI z2 25 (dC b k), oI z1 25 (dC a j)] ++ (itms 3 qs)) w1) => (haveI := Inv.tab (P := Tryd.prog) hI; minKE w1 (renum (prodD f a b)) ⟨nbm, ncm, fbm, fcm, qs⟩ (show At w1 (renum (prodD f a b)) ⟨nbm, ncm, fbm, fcm, qs⟩ from ⟨hI.slOf (List.mem_of_getElem? (i := 0) rfl), e1 ▸ hI.recs (fun q hq => List.mem_append_right _ (List.mem_map_of_mem (f := Rec.itm 3) hq)), hI.slOf (List.mem_of_getElem? (i := 1) rfl)⟩) vR (by rw [renum_rows, List.length_map]; exact Nat.lt_of_le_of_lt hN8 (by decide)) (minD_renum vD))
  refine TO.loud rfl (l_call ent17 (CallT.of_pure hk63) rfl ?_)
  clear hk63
  rintro vr O' ⟨N9, rfl, k', rfl, rfl⟩
  refine TO.quiet (q_extract (vs := _) rfl rfl) (TO.quiet (q_extract (vs := _) rfl rfl) ?_)
  refine TO.loud rfl (l_store_box (v := (dV (minD (prodD f a b)) k')) (vs := (dC (minD (prodD f a b)) k')) 6 inf25 rfl rfl rfl rfl rfl rfl (by simp [putL]) ?_)
  refine TO.loud rfl (l_store_box (v := .int .i64 0) (vs := [(.int .i64 0)]) 5 inf33 rfl rfl rfl rfl rfl rfl (by simp [putL]) ?_)
  refine TO.nil (T.ret (Res.drop ?_))
  refine Res.cell2a (i := 6) (j := 5) Tryd.results47 Tryd.underlying25 rfl inf25 Tryd.underlying33 rfl rfl rfl rfl rfl rfl ?_
  exact ⟨[dI 54 4 3 (minD (prodD f a b)) k'], (by exact Sub.k .z), k', rfl, rfl⟩
set_option maxRecDepth 20000 in
theorem combineOk (w : World) [Tab Tryd.prog w] (a b : DFA) (j k : DK) (ha : At w a j) (hb : At w b k) (va : Valid a) (vb : Valid b) (hv : a.vars = b.vars) (f : Bool → Bool → Bool) (g : Nat) (hf : ∀ (base : World) (x y : Bool), CallV Tryd.prog base (.func (.func g) #[] #[]) [.bool x, .bool y] [] (fun v O' => v = .bool (f x y) ∧ O' = [])) (hn : a.next.length * b.next.length ≤ 4096) (hN9 : (order (prodD f a b)).length < 10000) :
    PureT Tryd.prog 47 [dV a j, dV b k, .func (.func g) #[] #[]] w fun v N => ∃ k' : DK, v = .tuple #[dV (opD f a b) k', .int .i64 0] ∧ N = [dI 54 4 3 (opD f a b) k'] :=
  combineW w a b j k ha hb va vb hv f g hf (Nat.le_trans (pr_order_le (f := f) va.toVal vb.toVal hv) hn)
set_option maxHeartbeats 1000000 in
set_option maxRecDepth 20000 in
theorem combineBig (w : World) [Tab Tryd.prog w] (a b : DFA) (j k : DK) (ha : At w a j) (hb : At w b k) (va : Valid a) (vb : Valid b) (hv : a.vars = b.vars) (f : Bool → Bool → Bool) (g : Nat) (hf : ∀ (base : World) (x y : Bool), CallV Tryd.prog base (.func (.func g) #[] #[]) [.bool x, .bool y] [] (fun v O' => v = .bool (f x y) ∧ O' = [])) (hbig : 4096 < (order (prodD f a b)).length) :
    PureT Tryd.prog 47 [dV a j, dV b k, .func (.func g) #[] #[]] w fun v N => v = .tuple #[dV noD ⟨none, 0, none, 0, []⟩, .int .i64 10] ∧ N = [] := by
  refine CallT.enter Tryd.func47 rfl Tryd.ntmps47 rfl ?_
  have h4 : a.next.length * b.next.length ≤ 4096 * 4096 := Nat.mul_le_mul va.n4 vb.n4
  obtain ⟨L, hL⟩ : ∃ L, 2 ^ a.vars.toNat = L := ⟨_, rfl⟩
  have hw : L ≤ 64 := by rw [← hL]; exact va.width
  refine T.seq (T.region ?_)
  refine TO.loud rfl (l_box (v := (dV a j)) (cs := (dC a j)) rfl rfl (fun z1 => ?_))
  refine TO.loud rfl (l_box (v := (dV b k)) (cs := (dC b k)) rfl rfl (fun z2 => ?_))
  refine TO.loud rfl (l_box (v := (.func (.func g) #[] #[])) (cs := [(.func (.func g) #[] #[])]) rfl rfl (fun z3 => ?_))
  refine TO.loud rfl (l_alloc inf25 rfl (fun z4 => ?_))
  refine TO.loud rfl (l_alloc inf33 rfl (fun z5 => ?_))
  refine TO.nil (T.seq (T.region ?_))
  refine TO.quiet (q_load_boxAgg 4 Tryd.underlying25 rfl inf25 rfl rfl rfl) (TO.quiet (q_load_boxAgg 3 Tryd.underlying25 rfl inf25 rfl rfl rfl) ?_)
  have hk16 := fun (w1 : World) (hI : Inv w [oI z5 33 [(.int .i64 0)], oI z4 25 [(.int .i64 0), (.int .i64 0), (.slice none 0 0), (.slice none 0 0)], oI z3 82 [(.func (.func g) #[] #[])], oI z2 25 (dC b k), oI z1 25 (dC a j)] w1) => (haveI := Inv.tab (P := Tryd.prog) hI; beginOk w1 a b j k (hI.atB ha) (hI.atB hb) va vb hv)
  refine TO.loud rfl (l_call ent67 (CallT.of_pure hk16) rfl ?_)
  clear hk16
  rintro vr O' ⟨N, rfl, bp, qb, m, rfl, rfl⟩
  refine TO.quiet (q_move rfl) (TO.quiet (q_extract (vs := _) rfl rfl) (TO.quiet (q_extract (vs := _) rfl rfl) ?_))
  refine TO.loud rfl (l_alloc inf105 rfl (fun z6 => ?_))
  refine TO.loud rfl (l_store_box (v := (.pointer (some ⟨bp, 0, none⟩))) (vs := [(.pointer (some ⟨bp, 0, none⟩))]) 0 inf105 rfl rfl rfl rfl rfl rfl (by simp [putL]) ?_)
  refine TO.quiet (q_assign rfl) ?_
  refine TO.nil (T.seq (T.seq (T.region ?_)))
  refine TO.quiet (q_move rfl) (TO.quiet (q_neq rfl rfl) ?_)
  refine TO.nil ?_
  refine T.cond0 rfl ?_
  refine T.skip (T.seq (T.region ?_))
  refine TO.quiet (q_fieldAddr Tryd.underlying25 rfl inf3 rfl rfl) (TO.quiet (q_load_box 8 Tryd.underlying3 rfl rfl rfl rfl) (TO.quiet (q_build (cs := [(.int .i64 a.vars), (.int .i64 0), (.slice none 0 0), (.slice none 0 0)]) plan25 inf25 (by kernel_rfl)) ?_))
  refine TO.loud rfl (l_alloc inf25 rfl (fun z7 => ?_))
  refine TO.loud rfl (l_store_box (v := (.agg #[(.int .i64 a.vars), (.int .i64 0), (.slice none 0 0), (.slice none 0 0)])) (vs := [(.int .i64 a.vars), (.int .i64 0), (.slice none 0 0), (.slice none 0 0)]) 0 inf25 rfl rfl rfl rfl rfl rfl (by simp [putL]) ?_)
  refine TO.nil (T.seq (T.seq ?_))
  refine T.nilRow 4 1 ?_
  refine T.nilRow 54 1 ?_
  refine T.region ?_
  refine TO.quiet (q_load_box 3 Tryd.underlying105 rfl rfl rfl rfl) ?_
  have hk27 := fun (w1 : World) (hI : Inv w [rowI none 0 54 1 (vals []), rowI none 0 4 1 (bools []), oI z7 25 [(.int .i64 a.vars), (.int .i64 0), (.slice none 0 0), (.slice none 0 0)], oI z6 105 [(.pointer (some ⟨bp, 0, none⟩))], oI bp 116 [(.int .i64 a.vars), (.int .i64 a.start), (.slice j.nb a.next.length j.nc), (.slice j.fb a.final.length j.fc), (.int .i64 b.vars), (.int .i64 b.start), (.slice k.nb b.next.length k.nc), (.slice k.fb b.final.length k.fc), (.slice (some ⟨qb, 0, none⟩) ([a.start.toNat * b.next.length + b.start.toNat].length) 1), (.map (some m))], rowI (some ⟨qb, 0, none⟩) 1 112 2 (prs b.next.length [a.start.toNat * b.next.length + b.start.toNat]), mapI pairV (fun n : Nat => Value.int .i64 (n : Int)) m (pmap b.next.length [a.start.toNat * b.next.length + b.start.toNat]), oI z5 33 [(.int .i64 0)], oI z4 25 [(.int .i64 0), (.int .i64 0), (.slice none 0 0), (.slice none 0 0)], oI z3 82 [(.func (.func g) #[] #[])], oI z2 25 (dC b k), oI z1 25 (dC a j)] w1) => (haveI := Inv.tab (P := Tryd.prog) hI; pairsF w1 bp)
  refine TO.loud rfl (l_call ent68 (CallT.of_pure hk27) rfl ?_)
  clear hk27
  rintro vr O' ⟨N, rfl, bP, rfl, rfl⟩
  refine TO.nil (T.block ?_)
  refine T.rangeFunc (first := []) (caps := [(.pointer (some ⟨bP, 0, none⟩))]) rfl ent79 (fun yl yq yhq => ?_)
  refine CallT.mono (CallT.sub (O' := oI bP 105 [(.pointer (some ⟨bp, 0, none⟩))] :: oI bp 116 [(.int .i64 a.vars), (.int .i64 a.start), (.slice j.nb a.next.length j.nc), (.slice j.fb a.final.length j.fc), (.int .i64 b.vars), (.int .i64 b.start), (.slice k.nb b.next.length k.nc), (.slice k.fb b.final.length k.fc), (.slice (some ⟨qb, 0, none⟩) ([a.start.toNat * b.next.length + b.start.toNat].length) 1), (.map (some m))] :: rowI (some ⟨qb, 0, none⟩) 1 112 2 (prs b.next.length [a.start.toNat * b.next.length + b.start.toNat]) :: mapI pairV (fun n : Nat => Value.int .i64 (n : Int)) m (pmap b.next.length [a.start.toNat * b.next.length + b.start.toNat]) :: (objI yl (lp yq none) :: [rowI none 0 54 1 (vals []), rowI none 0 4 1 (bools []), oI z7 25 [(.int .i64 a.vars), (.int .i64 0), (.slice none 0 0), (.slice none 0 0)], oI z6 105 [(.pointer (some ⟨bp, 0, none⟩))], oI z5 33 [(.int .i64 0)], oI z4 25 [(.int .i64 0), (.int .i64 0), (.slice none 0 0), (.slice none 0 0)], oI z3 82 [(.func (.func g) #[] #[])], oI z2 25 (dC b k), oI z1 25 (dC a j)])) (Sub.pick [1, 5, 5, 5, 0, 0, 0, 0, 0, 0, 0, 0, 0, 0] rfl) (pairs1 w f a b j k ha hb va vb hv L hL bP bp m (some ⟨qb, 0, none⟩) 1 (.func (.yield yl) #[] #[]) (fun i O => ∃ (nbm fbm : Option Addr) (ncm fcm n1 n2 : Nat) (qs : List Rec) (fs : List Bool), O = objI yl (lp yq none) :: ([rowI nbm ncm 54 1 (vals qs), rowI fbm fcm 4 1 (bools fs), oI z7 25 [(.int .i64 a.vars), (.int .i64 0), (.slice nbm n1 ncm), (.slice fbm n2 fcm)], oI z6 105 [(.pointer (some ⟨bp, 0, none⟩))], oI z5 33 [(.int .i64 0)], oI z4 25 [(.int .i64 0), (.int .i64 0), (.slice none 0 0), (.slice none 0 0)], oI z3 82 [(.func (.func g) #[] #[])], oI z2 25 (dC b k), oI z1 25 (dC a j)] ++ (itms 3 qs)) ∧ n1 = i ∧ n2 = i ∧ qs.length = i ∧ fs.length = i ∧ nums qs = ((order (prodD f a b)).take i).map (rnR (prodD f a b)) ∧ fs = ((order (prodD f a b)).take i).map (finN (prodD f a b)) ∧ (bfsN (prodD f a b) i).length ≤ 4096) (fun O => O = objI yl (lp yq (some .ret)) :: [oI z5 33 [(.int .i64 10)], oI z4 25 [(.int .i64 0), (.int .i64 0), (.slice none 0 0), (.slice none 0 0)]]) ?_ _ ?_)) ?_
  · intro i o qb qc rb O hq hJ
    obtain ⟨nbm, fbm, ncm, fcm, n1, n2, qs, fs, rfl, hn1, hn2, hql, hfl, hqs, hfs, hle⟩ := hJ
    refine CallV.yield yhq rfl rfl ?_
    refine T.sub (O' := ([rowI nbm ncm 54 1 (vals qs), rowI fbm fcm 4 1 (bools fs), oI z7 25 [(.int .i64 a.vars), (.int .i64 0), (.slice nbm n1 ncm), (.slice fbm n2 fcm)], oI z6 105 [(.pointer (some ⟨bp, 0, none⟩))], oI z5 33 [(.int .i64 0)], oI z4 25 [(.int .i64 0), (.int .i64 0), (.slice none 0 0), (.slice none 0 0)], oI z3 82 [(.func (.func g) #[] #[])], oI z2 25 (dC b k), oI z1 25 (dC a j), oI bp 116 [(.int .i64 a.vars), (.int .i64 a.start), (.slice j.nb a.next.length j.nc), (.slice j.fb a.final.length j.fc), (.int .i64 b.vars), (.int .i64 b.start), (.slice k.nb b.next.length k.nc), (.slice k.fb b.final.length k.fc), (.slice qb ((bfsN (prodD f a b) (i + 1)).length) qc), (.map (some m))], rowI qb qc 112 2 (prs b.next.length (bfsN (prodD f a b) (i + 1))), mapI pairV (fun n : Nat => Value.int .i64 (n : Int)) m (pmap b.next.length (bfsN (prodD f a b) (i + 1))), rowI (some ⟨rb, 0, none⟩) L 3 1 (ints (rnR (prodD f a b) o))] ++ itms 3 qs)) (by exact Sub.swap3 [rowI nbm ncm 54 1 (vals qs), rowI fbm fcm 4 1 (bools fs), oI z7 25 [(.int .i64 a.vars), (.int .i64 0), (.slice nbm n1 ncm), (.slice fbm n2 fcm)], oI z6 105 [(.pointer (some ⟨bp, 0, none⟩))], oI z5 33 [(.int .i64 0)], oI z4 25 [(.int .i64 0), (.int .i64 0), (.slice none 0 0), (.slice none 0 0)], oI z3 82 [(.func (.func g) #[] #[])], oI z2 25 (dC b k), oI z1 25 (dC a j)] [oI bp 116 [(.int .i64 a.vars), (.int .i64 a.start), (.slice j.nb a.next.length j.nc), (.slice j.fb a.final.length j.fc), (.int .i64 b.vars), (.int .i64 b.start), (.slice k.nb b.next.length k.nc), (.slice k.fb b.final.length k.fc), (.slice qb ((bfsN (prodD f a b) (i + 1)).length) qc), (.map (some m))], rowI qb qc 112 2 (prs b.next.length (bfsN (prodD f a b) (i + 1))), mapI pairV (fun n : Nat => Value.int .i64 (n : Int)) m (pmap b.next.length (bfsN (prodD f a b) (i + 1))), rowI (some ⟨rb, 0, none⟩) L 3 1 (ints (rnR (prodD f a b) o))] (itms 3 qs)) ?_
    have hbl := pr_bfs_len (f := f) va vb hv i
    have hil := (List.getElem?_eq_some_iff.1 hq).1
    have ho := (pr_bfs_ok (f := f) va vb hv i).2 o (List.mem_of_getElem? hq)
    obtain ⟨hs, ht⟩ := pr_split ho
    have hoa := bfs_at hq (by rw [prod_len]; omega)
    have hfa : (bools a.final)[o / b.next.length]? = some (.bool (finN a (o / b.next.length))) := by
      have hl : o / b.next.length < a.final.length := by rw [va.fin]; exact hs
      rw [bools_get hl]; unfold finN; rw [List.getD_eq_getElem?_getD, List.getElem?_eq_getElem hl]; rfl
    have hfb : (bools b.final)[o % b.next.length]? = some (.bool (finN b (o % b.next.length))) := by
      have hl : o % b.next.length < b.final.length := by rw [vb.fin]; exact ht
      rw [bools_get hl]; unfold finN; rw [List.getD_eq_getElem?_getD, List.getElem?_eq_getElem hl]; rfl
    have hrl : (rnR (prodD f a b) o).length = L := by unfold rnR; rw [List.length_map, renRow_length]; exact hL
    have hvq : vals (qs ++ [⟨some ⟨rb, 0, none⟩, L, rnR (prodD f a b) o⟩]) = vals qs ++ [.slice (some ⟨rb, 0, none⟩) L L] := by simp [Rec.val, hrl]
    have hbq : bools (fs ++ [f (finN a (o / b.next.length)) (finN b (o % b.next.length))]) = bools fs ++ [.bool (f (finN a (o / b.next.length)) (finN b (o % b.next.length)))] := by simp
    have hbl2 := pr_bfs_len (f := f) va vb hv (i + 1)
    refine T.seq (T.region ?_)
    refine TO.loud rfl (l_alloc inf112 rfl (fun z8 => ?_))
    refine TO.loud rfl (l_store_box (v := (.agg #[.int .i64 ((o / b.next.length : Nat) : Int), .int .i64 ((o % b.next.length : Nat) : Int)])) (vs := [.int .i64 ((o / b.next.length : Nat) : Int), .int .i64 ((o % b.next.length : Nat) : Int)]) 0 inf112 rfl rfl rfl rfl rfl rfl (by simp [putL]) ?_)
    refine TO.nil (T.region ?_)
    refine TO.quiet (q_assign rfl) ?_
    refine TO.nil (T.block (T.seq (T.seq (T.region ?_))))
    refine TO.quiet (q_load_box 4 Tryd.underlying105 rfl rfl rfl rfl) (TO.quiet (q_nilCheck rfl) (TO.quiet (q_fieldAddr Tryd.underlying116 rfl inf113 rfl rfl) (TO.quiet (q_load_box 10 Tryd.underlying113 rfl rfl rfl rfl) ?_)))
    refine TO.quiet (q_len Tryd.underlying113 rfl) (TO.quiet (q_gtr rfl rfl) ?_)
    refine TO.nil ?_
    refine T.condP rfl (fun hc => ?_) (fun hc => ?_)
    · have hlt35 : (bfsN (prodD f a b) (i + 1)).length > 4096 := by omega
      refine T.seq (T.region ?_)
      refine TO.quiet (q_build plan25 inf25 rfl) ?_
      refine TO.loud rfl (l_store_box (v := (.agg #[(.int .i64 0), (.int .i64 0), (.slice none 0 0), (.slice none 0 0)])) (vs := [(.int .i64 0), (.int .i64 0), (.slice none 0 0), (.slice none 0 0)]) 6 inf25 rfl rfl rfl rfl rfl rfl (by simp [putL]) ?_)
      refine TO.loud rfl (l_store_box (v := .int .i64 10) (vs := [(.int .i64 10)]) 5 inf33 rfl rfl rfl rfl rfl rfl (by simp [putL]) ?_)
      refine TO.sub (O' := [oI z5 33 [(.int .i64 10)], oI z4 25 [(.int .i64 0), (.int .i64 0), (.slice none 0 0), (.slice none 0 0)]]) (by exact Sub.d (.d (.d (.d (.d (.k (.k .z))))))) ?_
      refine TO.nil (T.ret ?_)
      exact .inr ⟨rfl, rfl⟩
    have hge35 : ¬ (bfsN (prodD f a b) (i + 1)).length > 4096 := by omega
    refine T.skip ?_
    refine T.draws [oI z8 112 [.int .i64 ((o / b.next.length : Nat) : Int), .int .i64 ((o % b.next.length : Nat) : Int)], oI z7 25 [(.int .i64 a.vars), (.int .i64 0), (.slice nbm n1 ncm), (.slice fbm n2 fcm)], oI z6 105 [(.pointer (some ⟨bp, 0, none⟩))], oI z5 33 [(.int .i64 0)], oI z4 25 [(.int .i64 0), (.int .i64 0), (.slice none 0 0), (.slice none 0 0)], oI z3 82 [(.func (.func g) #[] #[])], oI z2 25 (dC b k), oI z1 25 (dC a j), oI bp 116 [(.int .i64 a.vars), (.int .i64 a.start), (.slice j.nb a.next.length j.nc), (.slice j.fb a.final.length j.fc), (.int .i64 b.vars), (.int .i64 b.start), (.slice k.nb b.next.length k.nc), (.slice k.fb b.final.length k.fc), (.slice qb ((bfsN (prodD f a b) (i + 1)).length) qc), (.map (some m))]] [(0, 0), (1, 0), (2, 0), (5, 0), (6, 0), (7, 0), (8, 0), (9, 0), (10, 0), (11, 0), (12, 0), (13, 0), (14, 0), (15, 0), (16, 0), (17, 0), (18, 0), (19, 0), (3, 1), (4, 1), (23, 0), (20, 1), (21, 1), (22, 1), (24, 2), (25, 2), (26, 2)] mixed (by kernel_rfl) (by exact Sub.k (.d (.d (.k (.k (.k (.k (.k (.k (.k (.k .z))))))))))) (fun _ _ _ h => h) ?_
    refine DO.quiet rfl (q_fieldAddr Tryd.underlying25 rfl inf22 rfl rfl) (DO.quiet rfl (q_load_box 1 Tryd.underlying22 rfl rfl rfl rfl) (DO.quiet rfl (q_move rfl) (DO.quiet rfl (q_fieldAddr Tryd.underlying25 rfl inf23 rfl rfl) ?_)))
    refine DO.quiet rfl (q_load_box 1 Tryd.underlying23 rfl rfl rfl rfl) (DO.quiet rfl (q_load_box 5 Tryd.underlying82 rfl rfl rfl rfl) (DO.quiet rfl (q_fieldAddr Tryd.underlying25 rfl inf23 rfl rfl) (DO.quiet rfl (q_load_box 7 Tryd.underlying23 rfl rfl rfl rfl) ?_)))
    refine DO.quiet rfl (q_fieldAddr Tryd.underlying112 rfl inf3 rfl rfl) (DO.quiet rfl (q_load_box 0 Tryd.underlying3 rfl rfl rfl rfl) (DO.quiet rfl (q_ix (i := (o / b.next.length)) Tryd.underlying23 inf4 rfl rfl (Sl.o ha.final) (by rw [va.fin]; exact hs) (by rw [List.length_map, va.fin]; exact hs)) (DO.quiet rfl (q_ld Tryd.underlying4 rfl rfl (Sl.o ha.final) hfa) ?_)))
    refine DO.quiet rfl (q_fieldAddr Tryd.underlying25 rfl inf23 rfl rfl) (DO.quiet rfl (q_load_box 6 Tryd.underlying23 rfl rfl rfl rfl) (DO.quiet rfl (q_fieldAddr Tryd.underlying112 rfl inf3 rfl rfl) (DO.quiet rfl (q_load_box 0 Tryd.underlying3 rfl rfl rfl rfl) ?_)))
    refine DO.quiet rfl (q_ix (i := (o % b.next.length)) Tryd.underlying23 inf4 rfl rfl (Sl.o hb.final) (by rw [vb.fin]; exact ht) (by rw [List.length_map, vb.fin]; exact ht)) (DO.quiet rfl (q_ld Tryd.underlying4 rfl rfl (Sl.o hb.final) hfb) ?_)
    refine DO.loud rfl rfl (l_build1 (v := (.slice (some ⟨rb, 0, none⟩) L L)) Tryd.underlying22 inf54 rfl rfl rfl (fun z9 => ⟨by exact Sub.d (.k (.d (.d (.k (.k (.k (.k (.k (.k (.k (.k .z))))))))))), ?_⟩))
    refine DO.loud rfl rfl (l_append 2 Tryd.underlying22 Tryd.underlying22 inf54 rfl rfl rfl rfl (by simp; omega) (by decide) (Src.row (j := 0) rfl (by simp)) (by simp [oneB]) (by omega) (by decide) (by decide) (fun z10 zc11 => ⟨by exact Sub.d (.k (.d (.d (.k (.k (.k (.k (.k (.k (.k (.k .z))))))))))), ?_⟩))
    refine DO.quiet rfl (q_fieldAddr Tryd.underlying25 rfl inf22 rfl rfl) ?_
    have hk57 := CallV.under (B := ([rowI (some ⟨z9, 0, none⟩) 1 54 1 [(.slice (some ⟨rb, 0, none⟩) L L)], oI z8 112 [.int .i64 ((o / b.next.length : Nat) : Int), .int .i64 ((o % b.next.length : Nat) : Int)], rowI z10 zc11 54 1 ((vals qs) ++ [(.slice (some ⟨rb, 0, none⟩) L L)]), rowI fbm fcm 4 1 (bools fs), oI z7 25 [(.int .i64 a.vars), (.int .i64 0), (.slice nbm n1 ncm), (.slice fbm n2 fcm)], oI z6 105 [(.pointer (some ⟨bp, 0, none⟩))], oI z5 33 [(.int .i64 0)], oI z4 25 [(.int .i64 0), (.int .i64 0), (.slice none 0 0), (.slice none 0 0)], oI z3 82 [(.func (.func g) #[] #[])], oI z2 25 (dC b k), oI z1 25 (dC a j), oI bp 116 [(.int .i64 a.vars), (.int .i64 a.start), (.slice j.nb a.next.length j.nc), (.slice j.fb a.final.length j.fc), (.int .i64 b.vars), (.int .i64 b.start), (.slice k.nb b.next.length k.nc), (.slice k.fb b.final.length k.fc), (.slice qb ((bfsN (prodD f a b) (i + 1)).length) qc), (.map (some m))], rowI qb qc 112 2 (prs b.next.length (bfsN (prodD f a b) (i + 1))), mapI pairV (fun n : Nat => Value.int .i64 (n : Int)) m (pmap b.next.length (bfsN (prodD f a b) (i + 1))), rowI (some ⟨rb, 0, none⟩) L 3 1 (ints (rnR (prodD f a b) o))] ++ itms 3 qs)) (O := ([rowI (some ⟨z9, 0, none⟩) 1 54 1 [(.slice (some ⟨rb, 0, none⟩) L L)], oI z8 112 [.int .i64 ((o / b.next.length : Nat) : Int), .int .i64 ((o % b.next.length : Nat) : Int)], rowI z10 zc11 54 1 ((vals qs) ++ [(.slice (some ⟨rb, 0, none⟩) L L)]), rowI fbm fcm 4 1 (bools fs), oI z7 25 [(.int .i64 a.vars), (.int .i64 0), (.slice nbm n1 ncm), (.slice fbm n2 fcm)], oI z6 105 [(.pointer (some ⟨bp, 0, none⟩))], oI z5 33 [(.int .i64 0)], oI z4 25 [(.int .i64 0), (.int .i64 0), (.slice none 0 0), (.slice none 0 0)], oI z3 82 [(.func (.func g) #[] #[])], oI z2 25 (dC b k), oI z1 25 (dC a j), oI bp 116 [(.int .i64 a.vars), (.int .i64 a.start), (.slice j.nb a.next.length j.nc), (.slice j.fb a.final.length j.fc), (.int .i64 b.vars), (.int .i64 b.start), (.slice k.nb b.next.length k.nc), (.slice k.fb b.final.length k.fc), (.slice qb ((bfsN (prodD f a b) (i + 1)).length) qc), (.map (some m))], rowI qb qc 112 2 (prs b.next.length (bfsN (prodD f a b) (i + 1))), mapI pairV (fun n : Nat => Value.int .i64 (n : Int)) m (pmap b.next.length (bfsN (prodD f a b) (i + 1))), rowI (some ⟨rb, 0, none⟩) L 3 1 (ints (rnR (prodD f a b) o))] ++ (itms 3 qs))) (hf w (finN a (o / b.next.length)) (finN b (o % b.next.length))) (by exact Sub.rf)
    refine DO.loud rfl rfl (l_callG hk57 rfl rfl ?_)
    clear hk57
    rintro vr O' ⟨A1, rfl, rfl, rfl⟩
    refine ⟨by exact Sub.d (.k (.d (.d (.k (.k (.k (.k (.k (.k (.k (.k .z))))))))))), ?_⟩
    refine DO.loud rfl rfl (l_build1 (v := .bool (f (finN a (o / b.next.length)) (finN b (o % b.next.length)))) Tryd.underlying23 inf4 rfl rfl rfl (fun z12 => ⟨by exact Sub.d (.d (.k (.d (.d (.k (.k (.k (.k (.k (.k (.k (.k .z)))))))))))), ?_⟩))
    refine DO.loud rfl rfl (l_append 4 Tryd.underlying23 Tryd.underlying23 inf4 rfl rfl rfl rfl (by simp; omega) (by decide) (Src.row (j := 0) rfl (by simp)) (by simp [oneB]) (by omega) (by decide) (by decide) (fun z13 zc14 => ⟨by exact Sub.d (.d (.k (.d (.d (.k (.k (.k (.k (.k (.k (.k (.k .z)))))))))))), ?_⟩))
    refine DO.last rfl rfl (l_store_box (v := (.slice z10 (n1 + 1) zc11)) (vs := [(.slice z10 (n1 + 1) zc11)]) 5 inf22 rfl rfl rfl rfl rfl rfl (by simp [putL]) ?_)
    refine DO.last rfl rfl (LT.of_quiet rfl rfl (q_fieldAddr Tryd.underlying25 rfl inf23 rfl rfl) ?_)
    refine DO.last rfl rfl (l_store_box (v := (.slice z13 (n2 + 1) zc14)) (vs := [(.slice z13 (n2 + 1) zc14)]) 5 inf23 rfl rfl rfl rfl rfl rfl (by simp [putL]) ?_)
    refine DO.sub (O' := ([rowI z10 zc11 54 1 ((vals qs) ++ [(.slice (some ⟨rb, 0, none⟩) L L)]), rowI z13 zc14 4 1 ((bools fs) ++ [.bool (f (finN a (o / b.next.length)) (finN b (o % b.next.length)))]), oI z7 25 [(.int .i64 a.vars), (.int .i64 0), (.slice z10 (n1 + 1) zc11), (.slice z13 (n2 + 1) zc14)], oI z6 105 [(.pointer (some ⟨bp, 0, none⟩))], oI z5 33 [(.int .i64 0)], oI z4 25 [(.int .i64 0), (.int .i64 0), (.slice none 0 0), (.slice none 0 0)], oI z3 82 [(.func (.func g) #[] #[])], oI z2 25 (dC b k), oI z1 25 (dC a j), rowI (some ⟨rb, 0, none⟩) L 3 1 (ints (rnR (prodD f a b) o)), oI bp 116 [(.int .i64 a.vars), (.int .i64 a.start), (.slice j.nb a.next.length j.nc), (.slice j.fb a.final.length j.fc), (.int .i64 b.vars), (.int .i64 b.start), (.slice k.nb b.next.length k.nc), (.slice k.fb b.final.length k.fc), (.slice qb ((bfsN (prodD f a b) (i + 1)).length) qc), (.map (some m))], rowI qb qc 112 2 (prs b.next.length (bfsN (prodD f a b) (i + 1))), mapI pairV (fun n : Nat => Value.int .i64 (n : Int)) m (pmap b.next.length (bfsN (prodD f a b) (i + 1)))] ++ itms 3 qs)) (by exact Sub.d (.d (.d (.k (.k (.k (.k (.k (.k (.k (.k (.k (.pull [oI bp 116 [(.int .i64 a.vars), (.int .i64 a.start), (.slice j.nb a.next.length j.nc), (.slice j.fb a.final.length j.fc), (.int .i64 b.vars), (.int .i64 b.start), (.slice k.nb b.next.length k.nc), (.slice k.fb b.final.length k.fc), (.slice qb ((bfsN (prodD f a b) (i + 1)).length) qc), (.map (some m))], rowI qb qc 112 2 (prs b.next.length (bfsN (prodD f a b) (i + 1))), mapI pairV (fun n : Nat => Value.int .i64 (n : Int)) m (pmap b.next.length (bfsN (prodD f a b) (i + 1)))] _ (.k (.k (.k .rf)))))))))))))))) ?_
    refine DO.sub (O' := (([rowI z10 zc11 54 1 (vals (qs ++ [⟨some ⟨rb, 0, none⟩, L, rnR (prodD f a b) o⟩])), rowI z13 zc14 4 1 (bools (fs ++ [f (finN a (o / b.next.length)) (finN b (o % b.next.length))])), oI z7 25 [(.int .i64 a.vars), (.int .i64 0), (.slice z10 (n1 + 1) zc11), (.slice z13 (n2 + 1) zc14)], oI z6 105 [(.pointer (some ⟨bp, 0, none⟩))], oI z5 33 [(.int .i64 0)], oI z4 25 [(.int .i64 0), (.int .i64 0), (.slice none 0 0), (.slice none 0 0)], oI z3 82 [(.func (.func g) #[] #[])], oI z2 25 (dC b k), oI z1 25 (dC a j)] ++ itms 3 (qs ++ [⟨some ⟨rb, 0, none⟩, L, rnR (prodD f a b) o⟩])) ++ [oI bp 116 [(.int .i64 a.vars), (.int .i64 a.start), (.slice j.nb a.next.length j.nc), (.slice j.fb a.final.length j.fc), (.int .i64 b.vars), (.int .i64 b.start), (.slice k.nb b.next.length k.nc), (.slice k.fb b.final.length k.fc), (.slice qb ((bfsN (prodD f a b) (i + 1)).length) qc), (.map (some m))], rowI qb qc 112 2 (prs b.next.length (bfsN (prodD f a b) (i + 1))), mapI pairV (fun n : Nat => Value.int .i64 (n : Int)) m (pmap b.next.length (bfsN (prodD f a b) (i + 1)))])) (by rw [hvq, hbq]; exact Sub.fold [rowI z10 zc11 54 1 ((vals qs) ++ [(.slice (some ⟨rb, 0, none⟩) L L)]), rowI z13 zc14 4 1 ((bools fs) ++ [.bool (f (finN a (o / b.next.length)) (finN b (o % b.next.length)))]), oI z7 25 [(.int .i64 a.vars), (.int .i64 0), (.slice z10 (n1 + 1) zc11), (.slice z13 (n2 + 1) zc14)], oI z6 105 [(.pointer (some ⟨bp, 0, none⟩))], oI z5 33 [(.int .i64 0)], oI z4 25 [(.int .i64 0), (.int .i64 0), (.slice none 0 0), (.slice none 0 0)], oI z3 82 [(.func (.func g) #[] #[])], oI z2 25 (dC b k), oI z1 25 (dC a j)] (rowI (some ⟨rb, 0, none⟩) L 3 1 (ints (rnR (prodD f a b) o))) [oI bp 116 [(.int .i64 a.vars), (.int .i64 a.start), (.slice j.nb a.next.length j.nc), (.slice j.fb a.final.length j.fc), (.int .i64 b.vars), (.int .i64 b.start), (.slice k.nb b.next.length k.nc), (.slice k.fb b.final.length k.fc), (.slice qb ((bfsN (prodD f a b) (i + 1)).length) qc), (.map (some m))], rowI qb qc 112 2 (prs b.next.length (bfsN (prodD f a b) (i + 1))), mapI pairV (fun n : Nat => Value.int .i64 (n : Int)) m (pmap b.next.length (bfsN (prodD f a b) (i + 1)))] (itms 3 qs) _ (itms_snoc 3 qs ⟨some ⟨rb, 0, none⟩, L, rnR (prodD f a b) o⟩)) ?_
    refine DO.done ?_
    refine .inl ⟨rfl, _, rfl, z10, z13, zc11, zc14, n1 + 1, n2 + 1, qs ++ [⟨some ⟨rb, 0, none⟩, L, rnR (prodD f a b) o⟩], fs ++ [f (finN a (o / b.next.length)) (finN b (o % b.next.length))], rfl, by omega, by omega, by simp [hql], by simp [hfl], ?_, ?_, by omega⟩
    · rw [take_at hoa, List.map_append]
      show List.map Rec.xs (qs ++ [_]) = _
      rw [List.map_append, show List.map Rec.xs qs = _ from hqs]; rfl
    · rw [take_at hoa, List.map_append, hfs, ← pr_fin_at (f := f) ho]; rfl
  · refine ⟨none, none, 0, 0, 0, 0, [], [], rfl, rfl, rfl, rfl, rfl, by simp, by simp, by simp [bfsN]⟩
  rintro v O' (⟨N, qbF, qcF, O2, rfl, hN, nbm, fbm, ncm, fcm, n1, n2, qs, fs, rfl, hn1, hn2, hql, hfl, hqs, hfs, hle⟩ | rfl)
  · exact absurd hbig (by rw [pr_stop va vb hv hN]; omega)
  refine ⟨some .ret, _, rfl, ?_⟩
  refine Res.drop ?_
  refine Res.cell2a (i := 1) (j := 0) Tryd.results47 Tryd.underlying25 rfl inf25 Tryd.underlying33 rfl rfl rfl rfl rfl rfl ?_
  exact ⟨[], Sub.z, rfl, rfl⟩
end Go.Proofs.YtnpehjpookcfkaaDoor

namespace Go.Proofs.YtnpehjpookcfkaaDoor
open Go.Lx Go.RowKit
set_option linter.unusedVariables false
set_option linter.unusedSimpArgs false
set_option maxRecDepth 20000 in
theorem combineA (w : World) [Tab Tryd.prog w] (a b : DFA) (j k : DK) (ha : At w a j) (hb : At w b k) (haa : a.next.length < 9223372036854775807) (haar : ∀ r ∈ a.next, r.length < 9223372036854775807) (haaf : a.final.length < 9223372036854775807) (hbb : b.next.length < 9223372036854775807) (hbbr : ∀ r ∈ b.next, r.length < 9223372036854775807) (hbbf : b.final.length < 9223372036854775807) (f : Bool → Bool → Bool) (g : Nat) (hf : ∀ (base : World) (x y : Bool), CallV Tryd.prog base (.func (.func g) #[] #[]) [.bool x, .bool y] [] (fun v O' => v = .bool (f x y) ∧ O' = [])) (hN : wrongD a b = 0 → (order (prodD f a b)).length ≤ 4096) :
    PureT Tryd.prog 47 [dV a j, dV b k, .func (.func g) #[] #[]] w fun v N => ∃ k' : DK, v = .tuple #[dV (opV f a b) k', .int .i64 (wrongD a b : Int)] ∧ N = [dI 54 4 3 (opV f a b) k'] := by
  by_cases he : wrongD a b = 0
  · obtain ⟨va, vb, hv⟩ := wrongD_zero.1 he
    rw [opV_ok he, he]
    exact combineW w a b j k ha hb va vb hv f g hf (hN he)
  · rw [opV_bad he]
    refine CallT.dk (g := fun x => .tuple #[x, .int .i64 (wrongD a b : Int)]) ((CallT.addNil 54 1 (CallT.addNil 4 1 (combineBad w a b j k ha hb haa haar haaf hbb hbbr hbbf g he))).mono ?_)
    rintro v N ⟨O2, rfl, O3, rfl, rfl, rfl⟩
    exact ⟨none, 0, none, 0, [], rfl, rfl, rfl⟩
set_option maxHeartbeats 1000000 in
set_option maxRecDepth 20000 in
theorem notC0 (w : World) [Tab Tryd.prog w] (a : DFA) (j : DK) (ha : At w a j) (haa : a.next.length < 9223372036854775807) (haar : ∀ r ∈ a.next, r.length < 9223372036854775807) (haaf : a.final.length < 9223372036854775807) (hN : wrongD a a = 0 → (order (prodD notB a a)).length ≤ 4096) :
    PureT Tryd.prog 60 [dV a j] w fun v N => ∃ k' : DK, v = .tuple #[dV (opV notB a a) k', .int .i64 (wrongD a a : Int)] ∧ N = [dI 54 4 3 (opV notB a a) k'] := by
  refine CallT.enter Tryd.func60 rfl Tryd.ntmps60 rfl ?_
  refine T.seq (T.region ?_)
  refine TO.loud rfl (l_box (v := (dV a j)) (cs := (dC a j)) rfl rfl (fun bx1 => ?_))
  refine TO.loud rfl (l_alloc inf25 rfl (fun bx2 => ?_))
  refine TO.quiet (q_assign rfl) ?_
  refine TO.nil (T.seq (T.region ?_))
  refine TO.quiet (q_load_boxAgg 1 Tryd.underlying25 rfl inf25 rfl rfl rfl) (TO.quiet (q_load_boxAgg 1 Tryd.underlying25 rfl inf25 rfl rfl rfl) ?_)
  have hk6 := fun (w1 : World) (hI : Inv w [oI bx2 25 [(.int .i64 0), (.int .i64 0), (.slice none 0 0), (.slice none 0 0)], oI bx1 25 (dC a j)] w1) => (haveI := Inv.tab (P := Tryd.prog) hI; combineA w1 a a j j (hI.atB ha) (hI.atB ha) haa haar haaf haa haar haaf notB 73 notFV hN)
  refine TO.loud rfl (l_call ent47 (CallT.of_pure hk6) rfl ?_)
  clear hk6
  rintro vr O' ⟨N, rfl, k', rfl, rfl⟩
  refine TO.quiet (q_extract (vs := _) rfl rfl) (TO.quiet (q_extract (vs := _) rfl rfl) ?_)
  refine TO.loud rfl (l_store_box (v := (dV (opV notB a a) k')) (vs := (dC (opV notB a a) k')) 1 inf25 rfl rfl rfl rfl rfl rfl (by simp [putL]) ?_)
  refine TO.quiet (q_assign rfl) ?_
  refine TO.nil (T.ret (Res.drop ?_))
  refine Res.cell1b (.int .i64 (wrongD a a : Int)) (i := 1) Tryd.results60 Tryd.underlying25 rfl inf25 rfl rfl rfl rfl ?_
  exact ⟨[dI 54 4 3 (opV notB a a) k'], (by exact Sub.k .z), k', rfl, rfl⟩
theorem notC (w : World) [Tab Tryd.prog w] (a : DFA) (j : DK) (ha : At w a j) (haa : a.next.length < 9223372036854775807) (haar : ∀ r ∈ a.next, r.length < 9223372036854775807) (haaf : a.final.length < 9223372036854775807) :
    PureT Tryd.prog 60 [dV a j] w fun v N => ∃ k' : DK, v = .tuple #[dV (opV notB a a) k', .int .i64 (checkD a : Int)] ∧ N = [dI 54 4 3 (opV notB a a) k'] := by
  have h := notC0 w a j ha haa haar haaf (fun hw => by
    have hv := (wrongD_zero.1 hw).1
    exact Nat.le_trans (pr_order_factW hv.toVal hv.toVal rfl hv.toVal rfl (Det.refl a) (Det.refl a)) hv.n4)
  rwa [wrongD_self] at h
set_option maxHeartbeats 1000000 in
set_option maxRecDepth 20000 in
theorem andC (w : World) [Tab Tryd.prog w] (a b : DFA) (j k : DK) (ha : At w a j) (hb : At w b k) (haa : a.next.length < 9223372036854775807) (haar : ∀ r ∈ a.next, r.length < 9223372036854775807) (haaf : a.final.length < 9223372036854775807) (hbb : b.next.length < 9223372036854775807) (hbbr : ∀ r ∈ b.next, r.length < 9223372036854775807) (hbbf : b.final.length < 9223372036854775807) (hN : wrongD a b = 0 → (order (prodD andB a b)).length ≤ 4096) :
    PureT Tryd.prog 25 [dV a j, dV b k] w fun v N => ∃ k' : DK, v = .tuple #[dV (opV andB a b) k', .int .i64 (wrongD a b : Int)] ∧ N = [dI 54 4 3 (opV andB a b) k'] := by
  refine CallT.enter Tryd.func25 rfl Tryd.ntmps25 rfl ?_
  refine T.seq (T.region ?_)
  refine TO.loud rfl (l_box (v := (dV a j)) (cs := (dC a j)) rfl rfl (fun bx1 => ?_))
  refine TO.loud rfl (l_box (v := (dV b k)) (cs := (dC b k)) rfl rfl (fun bx2 => ?_))
  refine TO.loud rfl (l_alloc inf25 rfl (fun bx3 => ?_))
  refine TO.quiet (q_assign rfl) ?_
  refine TO.nil (T.seq (T.region ?_))
  refine TO.quiet (q_load_boxAgg 2 Tryd.underlying25 rfl inf25 rfl rfl rfl) (TO.quiet (q_load_boxAgg 1 Tryd.underlying25 rfl inf25 rfl rfl rfl) ?_)
  have hk8 := fun (w1 : World) (hI : Inv w [oI bx3 25 [(.int .i64 0), (.int .i64 0), (.slice none 0 0), (.slice none 0 0)], oI bx2 25 (dC b k), oI bx1 25 (dC a j)] w1) => (haveI := Inv.tab (P := Tryd.prog) hI; combineA w1 a b j k (hI.atB ha) (hI.atB hb) haa haar haaf hbb hbbr hbbf andB 48 andFV hN)
  refine TO.loud rfl (l_call ent47 (CallT.of_pure hk8) rfl ?_)
  clear hk8
  rintro vr O' ⟨N, rfl, k', rfl, rfl⟩
  refine TO.quiet (q_extract (vs := _) rfl rfl) (TO.quiet (q_extract (vs := _) rfl rfl) ?_)
  refine TO.loud rfl (l_store_box (v := (dV (opV andB a b) k')) (vs := (dC (opV andB a b) k')) 1 inf25 rfl rfl rfl rfl rfl rfl (by simp [putL]) ?_)
  refine TO.quiet (q_assign rfl) ?_
  refine TO.nil (T.ret (Res.drop ?_))
  refine Res.cell1b (.int .i64 (wrongD a b : Int)) (i := 1) Tryd.results25 Tryd.underlying25 rfl inf25 rfl rfl rfl rfl ?_
  exact ⟨[dI 54 4 3 (opV andB a b) k'], (by exact Sub.k .z), k', rfl, rfl⟩
set_option maxHeartbeats 1000000 in
set_option maxRecDepth 20000 in
theorem orC (w : World) [Tab Tryd.prog w] (a b : DFA) (j k : DK) (ha : At w a j) (hb : At w b k) (haa : a.next.length < 9223372036854775807) (haar : ∀ r ∈ a.next, r.length < 9223372036854775807) (haaf : a.final.length < 9223372036854775807) (hbb : b.next.length < 9223372036854775807) (hbbr : ∀ r ∈ b.next, r.length < 9223372036854775807) (hbbf : b.final.length < 9223372036854775807) (hN : wrongD a b = 0 → (order (prodD orB a b)).length ≤ 4096) :
    PureT Tryd.prog 32 [dV a j, dV b k] w fun v N => ∃ k' : DK, v = .tuple #[dV (opV orB a b) k', .int .i64 (wrongD a b : Int)] ∧ N = [dI 54 4 3 (opV orB a b) k'] := by
  refine CallT.enter Tryd.func32 rfl Tryd.ntmps32 rfl ?_
  refine T.seq (T.region ?_)
  refine TO.loud rfl (l_box (v := (dV a j)) (cs := (dC a j)) rfl rfl (fun bx1 => ?_))
  refine TO.loud rfl (l_box (v := (dV b k)) (cs := (dC b k)) rfl rfl (fun bx2 => ?_))
  refine TO.loud rfl (l_alloc inf25 rfl (fun bx3 => ?_))
  refine TO.quiet (q_assign rfl) ?_
  refine TO.nil (T.seq (T.region ?_))
  refine TO.quiet (q_load_boxAgg 2 Tryd.underlying25 rfl inf25 rfl rfl rfl) (TO.quiet (q_load_boxAgg 1 Tryd.underlying25 rfl inf25 rfl rfl rfl) ?_)
  have hk8 := fun (w1 : World) (hI : Inv w [oI bx3 25 [(.int .i64 0), (.int .i64 0), (.slice none 0 0), (.slice none 0 0)], oI bx2 25 (dC b k), oI bx1 25 (dC a j)] w1) => (haveI := Inv.tab (P := Tryd.prog) hI; combineA w1 a b j k (hI.atB ha) (hI.atB hb) haa haar haaf hbb hbbr hbbf orB 54 orFV hN)
  refine TO.loud rfl (l_call ent47 (CallT.of_pure hk8) rfl ?_)
  clear hk8
  rintro vr O' ⟨N, rfl, k', rfl, rfl⟩
  refine TO.quiet (q_extract (vs := _) rfl rfl) (TO.quiet (q_extract (vs := _) rfl rfl) ?_)
  refine TO.loud rfl (l_store_box (v := (dV (opV orB a b) k')) (vs := (dC (opV orB a b) k')) 1 inf25 rfl rfl rfl rfl rfl rfl (by simp [putL]) ?_)
  refine TO.quiet (q_assign rfl) ?_
  refine TO.nil (T.ret (Res.drop ?_))
  refine Res.cell1b (.int .i64 (wrongD a b : Int)) (i := 1) Tryd.results32 Tryd.underlying25 rfl inf25 rfl rfl rfl rfl ?_
  exact ⟨[dI 54 4 3 (opV orB a b) k'], (by exact Sub.k .z), k', rfl, rfl⟩
set_option maxHeartbeats 1000000 in
set_option maxRecDepth 20000 in
theorem minusC (w : World) [Tab Tryd.prog w] (a b : DFA) (j k : DK) (ha : At w a j) (hb : At w b k) (haa : a.next.length < 9223372036854775807) (haar : ∀ r ∈ a.next, r.length < 9223372036854775807) (haaf : a.final.length < 9223372036854775807) (hbb : b.next.length < 9223372036854775807) (hbbr : ∀ r ∈ b.next, r.length < 9223372036854775807) (hbbf : b.final.length < 9223372036854775807) (hN : wrongD a b = 0 → (order (prodD minusB a b)).length ≤ 4096) :
    PureT Tryd.prog 30 [dV a j, dV b k] w fun v N => ∃ k' : DK, v = .tuple #[dV (opV minusB a b) k', .int .i64 (wrongD a b : Int)] ∧ N = [dI 54 4 3 (opV minusB a b) k'] := by
  refine CallT.enter Tryd.func30 rfl Tryd.ntmps30 rfl ?_
  refine T.seq (T.region ?_)
  refine TO.loud rfl (l_box (v := (dV a j)) (cs := (dC a j)) rfl rfl (fun bx1 => ?_))
  refine TO.loud rfl (l_box (v := (dV b k)) (cs := (dC b k)) rfl rfl (fun bx2 => ?_))
  refine TO.loud rfl (l_alloc inf25 rfl (fun bx3 => ?_))
  refine TO.quiet (q_assign rfl) ?_
  refine TO.nil (T.seq (T.region ?_))
  refine TO.quiet (q_load_boxAgg 2 Tryd.underlying25 rfl inf25 rfl rfl rfl) (TO.quiet (q_load_boxAgg 1 Tryd.underlying25 rfl inf25 rfl rfl rfl) ?_)
  have hk8 := fun (w1 : World) (hI : Inv w [oI bx3 25 [(.int .i64 0), (.int .i64 0), (.slice none 0 0), (.slice none 0 0)], oI bx2 25 (dC b k), oI bx1 25 (dC a j)] w1) => (haveI := Inv.tab (P := Tryd.prog) hI; combineA w1 a b j k (hI.atB ha) (hI.atB hb) haa haar haaf hbb hbbr hbbf minusB 52 minusFV hN)
  refine TO.loud rfl (l_call ent47 (CallT.of_pure hk8) rfl ?_)
  clear hk8
  rintro vr O' ⟨N, rfl, k', rfl, rfl⟩
  refine TO.quiet (q_extract (vs := _) rfl rfl) (TO.quiet (q_extract (vs := _) rfl rfl) ?_)
  refine TO.loud rfl (l_store_box (v := (dV (opV minusB a b) k')) (vs := (dC (opV minusB a b) k')) 1 inf25 rfl rfl rfl rfl rfl rfl (by simp [putL]) ?_)
  refine TO.quiet (q_assign rfl) ?_
  refine TO.nil (T.ret (Res.drop ?_))
  refine Res.cell1b (.int .i64 (wrongD a b : Int)) (i := 1) Tryd.results30 Tryd.underlying25 rfl inf25 rfl rfl rfl rfl ?_
  exact ⟨[dI 54 4 3 (opV minusB a b) k'], (by exact Sub.k .z), k', rfl, rfl⟩
end Go.Proofs.YtnpehjpookcfkaaDoor

namespace Go.Proofs.YtnpehjpookcfkaaDoor
open Go.Lx Go.RowKit
set_option linter.unusedVariables false
set_option linter.unusedSimpArgs false
set_option maxHeartbeats 1000000 in
set_option maxRecDepth 20000 in
theorem inclBad (w : World) [Tab Tryd.prog w] (a b : DFA) (j k : DK) (ha : At w a j) (hb : At w b k) (haa : a.next.length < 9223372036854775807) (haar : ∀ r ∈ a.next, r.length < 9223372036854775807) (haaf : a.final.length < 9223372036854775807) (hbb : b.next.length < 9223372036854775807) (hbbr : ∀ r ∈ b.next, r.length < 9223372036854775807) (hbbf : b.final.length < 9223372036854775807) (he : wrongD a b ≠ 0) :
    PureT Tryd.prog 24 [dV a j, dV b k] w fun v N => v = .tuple #[.slice none 0 0, .bool false, .int .i64 (wrongD a b : Int)] ∧ N = [] := by
  refine CallT.enter Tryd.func24 rfl Tryd.ntmps24 rfl ?_
  refine T.seq (T.region ?_)
  refine TO.loud rfl (l_box (v := (dV a j)) (cs := (dC a j)) rfl rfl (fun bx1 => ?_))
  refine TO.loud rfl (l_box (v := (dV b k)) (cs := (dC b k)) rfl rfl (fun bx2 => ?_))
  refine TO.quiet (q_assign rfl) (TO.quiet (q_assign rfl) (TO.quiet (q_assign rfl) ?_))
  refine TO.nil (T.seq (T.region ?_))
  refine TO.quiet (q_load_boxAgg 1 Tryd.underlying25 rfl inf25 rfl rfl rfl) (TO.quiet (q_load_boxAgg 0 Tryd.underlying25 rfl inf25 rfl rfl rfl) ?_)
  have hk15 := fun (w1 : World) (hI : Inv w [oI bx2 25 (dC b k), oI bx1 25 (dC a j)] w1) => (haveI := Inv.tab (P := Tryd.prog) hI; minusC w1 a b j k (hI.atB ha) (hI.atB hb) haa haar haaf hbb hbbr hbbf (fun h => absurd h he))
  refine TO.loud rfl (l_call ent30 (CallT.of_pure hk15) rfl ?_)
  clear hk15
  rintro vr O' ⟨N, rfl, k', rfl, rfl⟩
  refine TO.quiet (q_move rfl) (TO.quiet (q_extract (vs := _) rfl rfl) (TO.quiet (q_extract (vs := _) rfl rfl) ?_))
  refine TO.loud rfl (l_alloc inf25 rfl (fun bx3 => ?_))
  refine TO.loud rfl (l_store_box (v := (dV (opV minusB a b) k')) (vs := (dC (opV minusB a b) k')) 0 inf25 rfl rfl rfl rfl rfl rfl (by simp [putL]) ?_)
  refine TO.quiet (q_assign rfl) ?_
  refine TO.nil (T.seq (T.seq (T.region ?_)))
  refine TO.quiet (q_move rfl) (TO.quiet (q_neq rfl rfl) ?_)
  refine TO.nil ?_
  refine T.cond1 (congrArg Value.bool (decide_eq_true (by omega))) ?_
  refine T.seq (T.region ?_)
  refine TO.quiet (q_move rfl) (TO.quiet (q_assign rfl) (TO.quiet (q_assign rfl) (TO.quiet (q_assign rfl) ?_)))
  refine TO.nil (T.ret (Res.drop ?_))
  refine Res.three (.slice none 0 0) (.bool false) (.int .i64 (wrongD a b : Int)) Tryd.results24 rfl rfl rfl ?_
  exact ⟨[], Sub.z, rfl, rfl⟩
set_option maxHeartbeats 1000000 in
set_option maxRecDepth 20000 in
theorem inclOk (w : World) [Tab Tryd.prog w] (a b : DFA) (j k : DK) (ha : At w a j) (hb : At w b k) (haa : a.next.length < 9223372036854775807) (haar : ∀ r ∈ a.next, r.length < 9223372036854775807) (haaf : a.final.length < 9223372036854775807) (hbb : b.next.length < 9223372036854775807) (hbbr : ∀ r ∈ b.next, r.length < 9223372036854775807) (hbbf : b.final.length < 9223372036854775807) (he : wrongD a b = 0) (vM : Valid (opD minusB a b)) (hml : (opD minusB a b).next.length ≤ 4095) (hN : (order (prodD minusB a b)).length ≤ 4096) :
    PureT Tryd.prog 24 [dV a j, dV b k] w fun v N => ∃ res wb wc, InclA a b res ∧ v = .tuple #[.slice wb (res.getD []).length wc, .bool (!res.isSome), .int .i64 0] ∧ N = [rowI wb wc 5 1 (byts (res.getD []))] := by
  refine CallT.enter Tryd.func24 rfl Tryd.ntmps24 rfl ?_
  obtain ⟨va, vb, hv⟩ := wrongD_zero.1 he
  obtain ⟨M, hM⟩ : ∃ M, opD minusB a b = M := ⟨_, rfl⟩
  rw [hM] at vM hml
  obtain ⟨L, hL⟩ : ∃ L, 2 ^ M.vars.toNat = L := ⟨_, rfl⟩
  have hw : L ≤ 64 := by rw [← hL]; exact vM.width
  obtain ⟨m, hm⟩ : ∃ m, M.next.length = m := ⟨_, rfl⟩
  have vS := sinkD_valid vM (by omega)
  have hmf := vM.fin
  refine T.seq (T.region ?_)
  refine TO.loud rfl (l_box (v := (dV a j)) (cs := (dC a j)) rfl rfl (fun z1 => ?_))
  refine TO.loud rfl (l_box (v := (dV b k)) (cs := (dC b k)) rfl rfl (fun z2 => ?_))
  refine TO.quiet (q_assign rfl) (TO.quiet (q_assign rfl) (TO.quiet (q_assign rfl) ?_))
  refine TO.nil (T.seq (T.region ?_))
  refine TO.quiet (q_load_boxAgg 1 Tryd.underlying25 rfl inf25 rfl rfl rfl) (TO.quiet (q_load_boxAgg 0 Tryd.underlying25 rfl inf25 rfl rfl rfl) ?_)
  have hk15 := fun (w1 : World) (hI : Inv w [oI z2 25 (dC b k), oI z1 25 (dC a j)] w1) => (haveI := Inv.tab (P := Tryd.prog) hI; (show PureT _ _ _ _ _ from by have h9 := minusC w1 a b j k (hI.atB ha) (hI.atB hb) haa haar haaf hbb hbbr hbbf (fun _ => hN); rw [opV_ok he, he, hM] at h9; exact h9))
  refine TO.loud rfl (l_call ent30 (CallT.of_pure hk15) rfl ?_)
  clear hk15
  rintro vr O' ⟨N, rfl, k', rfl, rfl⟩
  refine TO.quiet (q_move rfl) (TO.quiet (q_extract (vs := _) rfl rfl) (TO.quiet (q_extract (vs := _) rfl rfl) ?_))
  refine TO.loud rfl (l_alloc inf25 rfl (fun z3 => ?_))
  refine TO.loud rfl (l_store_box (v := (dV M k')) (vs := (dC M k')) 0 inf25 rfl rfl rfl rfl rfl rfl (by simp [putL]) ?_)
  refine TO.quiet (q_assign rfl) ?_
  refine TO.nil (T.seq (T.seq (T.region ?_)))
  refine TO.quiet (q_move rfl) (TO.quiet (q_neq rfl rfl) ?_)
  refine TO.nil ?_
  refine T.cond0 rfl ?_
  refine T.skip (T.seq ?_)
  refine T.sub (O' := [dI 54 4 3 M k', oI z3 25 (dC M k'), oI z2 25 (dC b k), oI z1 25 (dC a j)]) (by exact Sub.pull [oI z3 25 (dC M k')] _ (.k (.k (.k .z)))) ?_
  refine T.unpack (fun hqs => ?_)
  refine T.sub (O' := ([rowI k'.nb k'.nc 54 1 (vals k'.qs), rowI k'.fb k'.fc 4 1 (bools M.final), oI z3 25 (dC M k'), oI z2 25 (dC b k), oI z1 25 (dC a j)] ++ itms 3 k'.qs)) (by exact Sub.swap3 [rowI k'.nb k'.nc 54 1 (vals k'.qs), rowI k'.fb k'.fc 4 1 (bools M.final)] [oI z3 25 (dC M k'), oI z2 25 (dC b k), oI z1 25 (dC a j)] (itms 3 k'.qs)) ?_
  refine T.region ?_
  refine TO.quiet (q_fieldAddr Tryd.underlying25 rfl inf22 rfl rfl) (TO.quiet (q_load_box 2 Tryd.underlying22 rfl rfl rfl rfl) (TO.quiet (QT.cast (q_len Tryd.underlying22 rfl) (v' := .int .i64 ((m : Nat) : Int)) (by rw [hm])) (TO.quiet (q_assign rfl) ?_)))
  refine TO.nil (T.seq (T.region ?_))
  refine TO.quiet (q_fieldAddr Tryd.underlying25 rfl inf3 rfl rfl) (TO.quiet (q_load_box 2 Tryd.underlying3 rfl rfl rfl rfl) (TO.quiet (QT.cast (q_shl1 (v := M.vars.toNat) rfl (by show Value.int _ M.vars = _; rw [Int.toNat_of_nonneg vM.v0]) (by have := vM.v6; omega)) (v' := .int .i64 ((L : Nat) : Int)) (by rw [hL])) ?_))
  refine TO.loud rfl (l_makeSlice (m := L) Tryd.underlying54 inf3 rfl rfl (by omega) (by omega) (fun z4 => ?_))
  refine TO.quiet (q_assign rfl) ?_
  refine TO.nil (T.seq (T.seq (T.region ?_)))
  refine TO.quiet (q_move rfl) (TO.quiet (q_len Tryd.underlying54 rfl) (TO.quiet (q_move rfl) ?_))
  refine TO.nil (T.block ?_)
  refine T.loop (fun (x : Nat) ρ O => ∃ (ys : List Int), O = ([rowI (some ⟨z4, 0, none⟩) L 3 1 (ints ys), rowI k'.nb k'.nc 54 1 (vals k'.qs), rowI k'.fb k'.fc 4 1 (bools M.final), oI z3 25 (dC M k'), oI z2 25 (dC b k), oI z1 25 (dC a j)] ++ (itms 3 k'.qs)) ∧ x ≤ L ∧ ys.length = L ∧ (∀ y, y < x → ys[y]? = some (m : Int)) ∧ Heads [(0, (dV a j)), (1, (dV b k)), (2, (.pointer (some ⟨z1, 0, none⟩))), (3, (.pointer (some ⟨z2, 0, none⟩))), (4, (.slice none 0 0)), (5, .bool false), (6, .int .i64 0), (7, (.pointer (some ⟨z3, 0, none⟩))), (8, .int .i64 ((m : Nat) : Int)), (9, (.slice (some ⟨z4, 0, none⟩) L L)), (29, .int .i64 (L : Int)), (30, .int .i64 ((x : Nat) : Int))] ρ) (fun x => L - x) 0 ?_ ?_
  · refine ⟨List.replicate L 0, ?_, Nat.zero_le _, by simp, fun y hy9 => absurd hy9 (by omega), ⟨rfl, rfl, rfl, rfl, rfl, rfl, rfl, rfl, rfl, rfl, rfl, rfl, trivial⟩⟩
    rw [show List.replicate L (Value.int .i64 0) = ints (List.replicate L 0) by simp]; rfl
  rintro x ρ O ⟨ys, rfl, hx, hyl, hys, hH⟩
  obtain ⟨ρ0, rfl⟩ := hH.elim
  clear hH
  refine T.seq (T.region ?_)
  refine TO.quiet (q_lss rfl rfl) ?_
  refine TO.nil (T.seq ?_)
  refine T.condP rfl (fun hc => ?_) (fun hc => ?_)
  · have hlt31 : x < L := by omega
    refine T.skip (T.seq (T.block (T.seq (T.region ?_))))
    refine TO.quiet (q_move rfl) (TO.quiet (q_assign rfl) ?_)
    refine TO.nil (T.region ?_)
    refine TO.quiet (q_move rfl) (TO.quiet (q_move rfl) (TO.quiet (q_move rfl) (TO.quiet (q_ix (i := x) Tryd.underlying54 inf3 rfl rfl (rowO (List.mem_of_getElem? (i := 0) rfl))) ?_)))
    refine TO.loud rfl (l_st (j := x) (v := .int .i64 ((m : Nat) : Int)) (vs := [(.int .i64 ((m : Nat) : Int))]) (cs := ints ys) 0 inf3 rfl rfl rfl rfl rfl (by simp) rfl (by first | (simp; omega) | (simp_all; omega)) ?_)
    refine TO.sub (O' := ([rowI (some ⟨z4, 0, none⟩) L 3 1 (ints (ys.set x (m : Int))), rowI k'.nb k'.nc 54 1 (vals k'.qs), rowI k'.fb k'.fc 4 1 (bools M.final), oI z3 25 (dC M k'), oI z2 25 (dC b k), oI z1 25 (dC a j)] ++ (itms 3 k'.qs))) (by rw [show putL (ints ys) x [(.int .i64 ((m : Nat) : Int))] = ints (ys.set x (m : Int)) from by simp [putL]]; exact Sub.of (List.Sublist.refl _)) ?_
    refine TO.nil (T.region ?_)
    refine TO.quiet (q_addN (a := x) (b := 1) rfl rfl (by omega)) (TO.quiet (q_move rfl) ?_)
    refine TO.nil ?_
    refine ⟨x + 1, by omega, ys.set x (m : Int), rfl, by omega, by simp [hyl], fun y hy9 => ?_, ⟨rfl, rfl, rfl, rfl, rfl, rfl, rfl, rfl, rfl, rfl, rfl, rfl, trivial⟩⟩
    by_cases e : y = x
    · subst e; rw [List.getElem?_set_self (by omega)]
    · rw [List.getElem?_set_ne (fun h => e h.symm)]; exact hys y (by omega)
  have hge31 : ¬ x < L := by omega
  refine T.exit ?_
  refine T.cut (fun ρ O => ∃ (nb2 : Option Addr) (nc2 : Nat) (fb2 : Option Addr) (fc2 : Nat), O = ([rowI (some ⟨z4, 0, none⟩) L 3 1 (ints ys), rowI nb2 nc2 54 1 ((vals k'.qs) ++ [(.slice (some ⟨z4, 0, none⟩) L L)]), rowI fb2 fc2 4 1 ((bools M.final) ++ [.bool false]), oI z3 25 [(.int .i64 M.vars), (.int .i64 M.start), (.slice nb2 (M.next.length + 1) nc2), (.slice fb2 (M.final.length + 1) fc2)], oI z2 25 (dC b k), oI z1 25 (dC a j)] ++ (itms 3 k'.qs)) ∧ Heads [(0, (dV a j)), (1, (dV b k)), (2, (.pointer (some ⟨z1, 0, none⟩))), (3, (.pointer (some ⟨z2, 0, none⟩))), (4, (.slice none 0 0)), (5, .bool false), (6, .int .i64 0), (7, (.pointer (some ⟨z3, 0, none⟩))), (8, .int .i64 ((m : Nat) : Int)), (9, (.slice (some ⟨z4, 0, none⟩) L L))] ρ) ?_ ?_
  · refine T.treeT [oI z3 25 (dC M k'), oI z2 25 (dC b k), oI z1 25 (dC a j)] [10, 12] 13 mixed rfl (by exact Sub.d (.d (.d (.k (.k (.k .z)))))) (fun _ _ _ h => h) ?_
    refine RO.quietTT 0 rfl (by kernel_rfl) (q_fieldAddr Tryd.underlying25 rfl inf22 rfl rfl) ?_
    refine RO.quietTT 1 rfl (by kernel_rfl) (q_load_box 0 Tryd.underlying22 rfl rfl rfl rfl) ?_
    refine RO.quietTT 2 rfl (by kernel_rfl) (q_move rfl) ?_
    refine RO.quietTT 5 rfl (by kernel_rfl) (q_fieldAddr Tryd.underlying25 rfl inf23 rfl rfl) ?_
    refine RO.quietTT 6 rfl (by kernel_rfl) (q_load_box 0 Tryd.underlying23 rfl rfl rfl rfl) ?_
    refine RO.forkT [3, 7] (by kernel_rfl) rfl ⟨⟨_, rfl, rfl, l_build1 (v := (.slice (some ⟨z4, 0, none⟩) L L)) Tryd.underlying22 inf54 rfl rfl rfl (fun tr => ⟨.inr (by exact Sub.d (.d (.d (.d (.k (.k (.k .z))))))), ?_⟩)⟩, ⟨_, rfl, rfl, l_build1 (v := .bool false) Tryd.underlying23 inf4 rfl rfl rfl (fun tf => ⟨.inr (by exact Sub.d (.d (.d (.d (.k (.k (.k .z))))))), ?_⟩)⟩, trivial⟩ (by kernel_rfl)
    · refine RO.forkT [4, 7] (by kernel_rfl) rfl ⟨⟨_, rfl, rfl, l_append 2 Tryd.underlying22 Tryd.underlying22 inf54 rfl rfl rfl rfl (by rw [List.length_map]; have := congrArg List.length hqs; simpa using this) (by decide) (Src.row (j := 0) rfl (by simp)) (by simp [oneB]) (by omega) (by decide) (by decide) (fun nb2 nc2 => ⟨.inr (by exact Sub.d (.d (.d (.d (.k (.k (.k .z))))))), ?_⟩)⟩, ⟨_, rfl, rfl, l_build1 (v := .bool false) Tryd.underlying23 inf4 rfl rfl rfl (fun tf => ⟨.inr (by exact Sub.d (.d (.d (.d (.d (.k (.k (.k .z)))))))), ?_⟩)⟩, trivial⟩ (by kernel_rfl)
      · refine RO.quietTT 9 rfl (by kernel_rfl) (q_fieldAddr Tryd.underlying25 rfl inf22 rfl rfl) ?_
        refine RO.forkT [7] (by kernel_rfl) rfl ⟨⟨_, rfl, rfl, l_build1 (v := .bool false) Tryd.underlying23 inf4 rfl rfl rfl (fun tf => ⟨.inr (by exact Sub.d (.d (.d (.d (.d (.k (.k (.k .z)))))))), ?_⟩)⟩, trivial⟩ (by kernel_rfl)
        refine RO.forkT [8] (by kernel_rfl) rfl ⟨⟨_, rfl, rfl, l_append 4 Tryd.underlying23 Tryd.underlying23 inf4 rfl rfl rfl rfl (by simp) (by decide) (Src.row (j := 0) rfl (by simp)) (by simp [oneB]) (by omega) (by decide) (by decide) (fun fb2 fc2 => ⟨.inr (by exact Sub.d (.d (.d (.d (.d (.k (.k (.k .z)))))))), ?_⟩)⟩, trivial⟩ (by kernel_rfl)
        refine RO.forkT [10] (by kernel_rfl) rfl ⟨⟨_, rfl, rfl, l_store_box (v := (.slice nb2 (M.next.length + 1) nc2)) (vs := [(.slice nb2 (M.next.length + 1) nc2)]) 5 inf22 rfl rfl rfl rfl rfl rfl (by simp [putL]) ⟨.inl (by decide), ?_⟩⟩, trivial⟩ (by kernel_rfl)
        refine RO.quietE 11 rfl (by kernel_rfl) (q_fieldAddr Tryd.underlying25 rfl inf23 rfl rfl) ?_
        refine RO.forkT [12] (by kernel_rfl) rfl ⟨⟨_, rfl, rfl, l_store_box (v := (.slice fb2 (M.final.length + 1) fc2)) (vs := [(.slice fb2 (M.final.length + 1) fc2)]) 5 inf23 rfl rfl rfl rfl rfl rfl (by simp [putL]) ⟨.inl (by decide), ?_⟩⟩, trivial⟩ (by kernel_rfl)
        exact RO.fin (by kernel_rfl) ⟨nb2, nc2, fb2, fc2, rfl, ⟨rfl, rfl, rfl, rfl, rfl, rfl, rfl, rfl, rfl, rfl, trivial⟩⟩ (by exact Sub.d (.d (.k (.k (.k (.k (.k (.k .rf))))))))
      refine RO.forkT [4] (by kernel_rfl) rfl ⟨⟨_, rfl, rfl, l_append 3 Tryd.underlying22 Tryd.underlying22 inf54 rfl rfl rfl rfl (by rw [List.length_map]; have := congrArg List.length hqs; simpa using this) (by decide) (Src.row (j := 1) rfl (by simp)) (by simp [oneB]) (by omega) (by decide) (by decide) (fun nb2 nc2 => ⟨.inr (by exact Sub.d (.d (.d (.d (.d (.k (.k (.k .z)))))))), ?_⟩)⟩, trivial⟩ (by kernel_rfl)
      refine RO.quietTT 9 rfl (by kernel_rfl) (q_fieldAddr Tryd.underlying25 rfl inf22 rfl rfl) ?_
      refine RO.forkT [8] (by kernel_rfl) rfl ⟨⟨_, rfl, rfl, l_append 4 Tryd.underlying23 Tryd.underlying23 inf4 rfl rfl rfl rfl (by simp) (by decide) (Src.row (j := 0) rfl (by simp)) (by simp [oneB]) (by omega) (by decide) (by decide) (fun fb2 fc2 => ⟨.inr (by exact Sub.d (.d (.d (.d (.d (.k (.k (.k .z)))))))), ?_⟩)⟩, trivial⟩ (by kernel_rfl)
      refine RO.forkT [10] (by kernel_rfl) rfl ⟨⟨_, rfl, rfl, l_store_box (v := (.slice nb2 (M.next.length + 1) nc2)) (vs := [(.slice nb2 (M.next.length + 1) nc2)]) 5 inf22 rfl rfl rfl rfl rfl rfl (by simp [putL]) ⟨.inl (by decide), ?_⟩⟩, trivial⟩ (by kernel_rfl)
      refine RO.quietE 11 rfl (by kernel_rfl) (q_fieldAddr Tryd.underlying25 rfl inf23 rfl rfl) ?_
      refine RO.forkT [12] (by kernel_rfl) rfl ⟨⟨_, rfl, rfl, l_store_box (v := (.slice fb2 (M.final.length + 1) fc2)) (vs := [(.slice fb2 (M.final.length + 1) fc2)]) 5 inf23 rfl rfl rfl rfl rfl rfl (by simp [putL]) ⟨.inl (by decide), ?_⟩⟩, trivial⟩ (by kernel_rfl)
      exact RO.fin (by kernel_rfl) ⟨nb2, nc2, fb2, fc2, rfl, ⟨rfl, rfl, rfl, rfl, rfl, rfl, rfl, rfl, rfl, rfl, trivial⟩⟩ (by exact Sub.d (.d (.k (.k (.k (.k (.k (.k .rf))))))))
    refine RO.forkT [3] (by kernel_rfl) rfl ⟨⟨_, rfl, rfl, l_build1 (v := (.slice (some ⟨z4, 0, none⟩) L L)) Tryd.underlying22 inf54 rfl rfl rfl (fun tr => ⟨.inr (by exact Sub.d (.d (.d (.d (.d (.k (.k (.k .z)))))))), ?_⟩)⟩, trivial⟩ (by kernel_rfl)
    refine RO.forkT [4] (by kernel_rfl) rfl ⟨⟨_, rfl, rfl, l_append 3 Tryd.underlying22 Tryd.underlying22 inf54 rfl rfl rfl rfl (by rw [List.length_map]; have := congrArg List.length hqs; simpa using this) (by decide) (Src.row (j := 0) rfl (by simp)) (by simp [oneB]) (by omega) (by decide) (by decide) (fun nb2 nc2 => ⟨.inr (by exact Sub.d (.d (.d (.d (.d (.k (.k (.k .z)))))))), ?_⟩)⟩, trivial⟩ (by kernel_rfl)
    refine RO.quietTT 9 rfl (by kernel_rfl) (q_fieldAddr Tryd.underlying25 rfl inf22 rfl rfl) ?_
    refine RO.forkT [8] (by kernel_rfl) rfl ⟨⟨_, rfl, rfl, l_append 4 Tryd.underlying23 Tryd.underlying23 inf4 rfl rfl rfl rfl (by simp) (by decide) (Src.row (j := 1) rfl (by simp)) (by simp [oneB]) (by omega) (by decide) (by decide) (fun fb2 fc2 => ⟨.inr (by exact Sub.d (.d (.d (.d (.d (.k (.k (.k .z)))))))), ?_⟩)⟩, trivial⟩ (by kernel_rfl)
    refine RO.forkT [10] (by kernel_rfl) rfl ⟨⟨_, rfl, rfl, l_store_box (v := (.slice nb2 (M.next.length + 1) nc2)) (vs := [(.slice nb2 (M.next.length + 1) nc2)]) 5 inf22 rfl rfl rfl rfl rfl rfl (by simp [putL]) ⟨.inl (by decide), ?_⟩⟩, trivial⟩ (by kernel_rfl)
    refine RO.quietE 11 rfl (by kernel_rfl) (q_fieldAddr Tryd.underlying25 rfl inf23 rfl rfl) ?_
    refine RO.forkT [12] (by kernel_rfl) rfl ⟨⟨_, rfl, rfl, l_store_box (v := (.slice fb2 (M.final.length + 1) fc2)) (vs := [(.slice fb2 (M.final.length + 1) fc2)]) 5 inf23 rfl rfl rfl rfl rfl rfl (by simp [putL]) ⟨.inl (by decide), ?_⟩⟩, trivial⟩ (by kernel_rfl)
    exact RO.fin (by kernel_rfl) ⟨nb2, nc2, fb2, fc2, rfl, ⟨rfl, rfl, rfl, rfl, rfl, rfl, rfl, rfl, rfl, rfl, trivial⟩⟩ (by exact Sub.d (.d (.k (.k (.k (.k (.k (.k .rf))))))))
  rintro ρ O ⟨nb2, nc2, fb2, fc2, rfl, hH⟩
  obtain ⟨ρ0, rfl⟩ := hH.elim
  clear hH
  refine T.seq (T.seq ?_)
  have hye : ys = List.replicate (2 ^ M.vars.toNat) (m : Int) := by
    apply List.ext_getElem?
    intro y
    by_cases hy9 : y < L
    · rw [hys y (by omega), List.getElem?_replicate, if_pos (by rw [hL]; exact hy9)]
    · rw [List.getElem?_eq_none (by omega), List.getElem?_eq_none (by rw [List.length_replicate, hL]; omega)]
  have hvq : vals (k'.qs ++ [⟨some ⟨z4, 0, none⟩, L, ys⟩]) = vals k'.qs ++ [(.slice (some ⟨z4, 0, none⟩) L L)] := by simp [Rec.val, hyl]
  have hbq : bools (sinkD M).final = bools M.final ++ [.bool false] := by simp [sinkD]
  have hnq : nums (k'.qs ++ [⟨some ⟨z4, 0, none⟩, L, ys⟩]) = (sinkD M).next := by
    show List.map Rec.xs (k'.qs ++ [_]) = _
    rw [List.map_append, show List.map Rec.xs k'.qs = _ from hqs]; show _ ++ [ys] = _; rw [hye, ← hm]; rfl
  obtain ⟨z9, hz9⟩ : ∃ z : DK, z = ⟨nb2, nc2, fb2, fc2, k'.qs ++ [⟨some ⟨z4, 0, none⟩, L, ys⟩]⟩ := ⟨_, rfl⟩
  obtain ⟨W, hW⟩ : ∃ W, W = sinkD M := ⟨_, rfl⟩
  have vW : Valid W := hW ▸ vS
  have hWl : W.next.length = M.next.length + 1 := by rw [hW, sinkD_len]
  refine T.sub (O' := ([rowI nb2 nc2 54 1 ((vals k'.qs) ++ [(.slice (some ⟨z4, 0, none⟩) L L)]), rowI fb2 fc2 4 1 ((bools M.final) ++ [.bool false]), rowI (some ⟨z4, 0, none⟩) L 3 1 (ints ys), oI z3 25 [(.int .i64 M.vars), (.int .i64 M.start), (.slice nb2 (M.next.length + 1) nc2), (.slice fb2 (M.final.length + 1) fc2)], oI z2 25 (dC b k), oI z1 25 (dC a j)] ++ itms 3 k'.qs)) (by exact Sub.pull [rowI (some ⟨z4, 0, none⟩) L 3 1 (ints ys)] _ (.pull [rowI (some ⟨z4, 0, none⟩) L 3 1 (ints ys)] _ (.k (.k (.k (.k .rf)))))) ?_
  refine T.sub (O' := (([rowI nb2 nc2 54 1 (vals (k'.qs ++ [⟨some ⟨z4, 0, none⟩, L, ys⟩])), rowI fb2 fc2 4 1 (bools (sinkD M).final)] ++ itms 3 (k'.qs ++ [⟨some ⟨z4, 0, none⟩, L, ys⟩])) ++ [oI z3 25 [(.int .i64 (sinkD M).vars), (.int .i64 (sinkD M).start), (.slice nb2 ((sinkD M).next.length) nc2), (.slice fb2 ((sinkD M).final.length) fc2)], oI z2 25 (dC b k), oI z1 25 (dC a j)])) (by rw [hvq, hbq, show (sinkD M).next.length = M.next.length + 1 from sinkD_len _, show (sinkD M).final.length = M.final.length + 1 from sinkD_flen _]; exact Sub.fold [rowI nb2 nc2 54 1 ((vals k'.qs) ++ [(.slice (some ⟨z4, 0, none⟩) L L)]), rowI fb2 fc2 4 1 ((bools M.final) ++ [.bool false])] (rowI (some ⟨z4, 0, none⟩) L 3 1 (ints ys)) [oI z3 25 [(.int .i64 M.vars), (.int .i64 M.start), (.slice nb2 (M.next.length + 1) nc2), (.slice fb2 (M.final.length + 1) fc2)], oI z2 25 (dC b k), oI z1 25 (dC a j)] (itms 3 k'.qs) _ (itms_snoc 3 k'.qs ⟨some ⟨z4, 0, none⟩, L, ys⟩)) ?_
  refine T.pack (φ := nums (k'.qs ++ [⟨some ⟨z4, 0, none⟩, L, ys⟩]) = (sinkD M).next) hnq ?_
  refine T.sub (O' := [dI 54 4 3 W z9, oI z3 25 (dC W z9), oI z2 25 (dC b k), oI z1 25 (dC a j)]) (by subst hz9; subst hW; exact Sub.rf) ?_
  refine T.region ?_
  refine TO.quiet (q_fieldAddr Tryd.underlying25 rfl inf22 rfl rfl) (TO.quiet (q_load_box 1 Tryd.underlying22 rfl rfl rfl rfl) (TO.quiet (q_len Tryd.underlying22 rfl) (TO.quiet (QT.toB (q_gtr rfl rfl) (decide_eq_false (by omega))) ?_)))
  refine TO.nil ?_
  refine T.cond0 rfl ?_
  refine T.skip (T.seq (T.region ?_))
  refine TO.quiet (q_load_boxAgg 1 Tryd.underlying25 rfl inf25 rfl rfl rfl) (TO.quiet (q_fieldAddr Tryd.underlying25 rfl inf3 rfl rfl) (TO.quiet (q_load_box 1 Tryd.underlying3 rfl rfl rfl rfl) (TO.quiet (q_move rfl) ?_)))
  have hk60 := fun (w1 : World) (hI : Inv w [dI 54 4 3 W z9, oI z3 25 (dC W z9), oI z2 25 (dC b k), oI z1 25 (dC a j)] w1) => (haveI := Inv.tab (P := Tryd.prog) hI; distA w1 W z9.nb z9.fb z9.nc z9.fc (vals z9.qs) (hI.at (k := z9) (List.mem_of_getElem? (i := 0) rfl)) (by have := vW.n4; omega) vW.bound (by have := vW.fin; have := vW.n4; omega) (fun _ => by omega) W.start (m : Int))
  refine TO.loud rfl (l_call ent46 (CallT.of_pure hk60) rfl ?_)
  clear hk60
  rintro vr O' ⟨N, rfl, res, wb, wc, hT, rfl, rfl⟩
  refine TO.quiet (q_move rfl) (TO.quiet (q_extract (vs := _) rfl rfl) (TO.quiet (q_extract (vs := _) rfl rfl) (TO.quiet (q_extract (vs := _) rfl rfl) ?_)))
  refine TO.quiet (q_assign rfl) (TO.quiet (q_assign rfl) (TO.quiet (q_assign rfl) ?_))
  refine TO.nil (T.seq (T.region ?_))
  refine TO.quiet (q_move rfl) (TO.quiet (q_move rfl) (TO.quiet (q_not rfl) (TO.quiet (q_move rfl) ?_)))
  refine TO.quiet (q_assign rfl) (TO.quiet (q_assign rfl) (TO.quiet (q_assign rfl) ?_))
  refine TO.nil (T.ret (Res.drop ?_))
  refine Res.three (.slice wb ((res.getD []).length) wc) (.bool (!res.isSome)) (.int .i64 (eD W W.start (m : Int) : Int)) Tryd.results24 rfl rfl rfl ?_
  subst hW
  have e0 : eD (sinkD M) (sinkD M).start (m : Int) = 0 := by rw [← hm]; exact sink_eD vM (by omega)
  exact ⟨[rowI wb wc 5 1 (byts (res.getD []))], (by exact Sub.k .z), res, wb, wc, (InclA.ok he).2 (hM.symm ▸ sink_least vM (by omega) (by rw [hm]; exact hT)), by rw [e0]; rfl, rfl⟩
end Go.Proofs.YtnpehjpookcfkaaDoor

namespace Go.Proofs.YtnpehjpookcfkaaDoor
open Go.Lx Go.RowKit
set_option linter.unusedVariables false
set_option linter.unusedSimpArgs false
set_option maxHeartbeats 1000000 in
set_option maxRecDepth 20000 in
theorem shoBad (w : World) [Tab Tryd.prog w] (a : DFA) (k : DK) (ha : At w a k) (haa : a.next.length < 9223372036854775807) (haar : ∀ r ∈ a.next, r.length < 9223372036854775807) (haaf : a.final.length < 9223372036854775807) (he : checkD a ≠ 0) :
    PureT Tryd.prog 51 [dV a k] w fun v N => v = .tuple #[.slice none 0 0, .bool false, .int .i64 (checkD a : Int)] ∧ N = [] := by
  refine CallT.enter Tryd.func51 rfl Tryd.ntmps51 rfl ?_
  refine T.seq (T.region ?_)
  refine TO.loud rfl (l_box (v := (dV a k)) (cs := (dC a k)) rfl rfl (fun bx1 => ?_))
  refine TO.quiet (q_assign rfl) (TO.quiet (q_assign rfl) (TO.quiet (q_assign rfl) ?_))
  refine TO.nil (T.seq (T.seq (T.region ?_)))
  refine TO.quiet (q_load_boxAgg 0 Tryd.underlying25 rfl inf25 rfl rfl rfl) ?_
  have hk12 := fun (w1 : World) (hI : Inv w [oI bx1 25 (dC a k)] w1) => (haveI := Inv.tab (P := Tryd.prog) hI; subsetCheck w1 a k.nb k.fb k.nc k.fc (vals k.qs) (hI.dfa ha) haa haar haaf)
  refine TO.loud rfl (l_call ent26 (CallT.of_pure hk12) rfl ?_)
  clear hk12
  rintro vr O' ⟨N, rfl, rfl, rfl⟩
  refine TO.quiet (q_assign rfl) ?_
  refine TO.nil (T.seq (T.region ?_))
  refine TO.quiet (q_move rfl) (TO.quiet (QT.toB (q_neq rfl rfl) (decide_eq_true (by omega))) ?_)
  refine TO.nil ?_
  refine T.cond1 rfl ?_
  refine T.seq (T.region ?_)
  refine TO.quiet (q_move rfl) (TO.quiet (q_assign rfl) (TO.quiet (q_assign rfl) (TO.quiet (q_assign rfl) ?_)))
  refine TO.nil (T.ret (Res.drop ?_))
  refine Res.three (.slice none 0 0) (.bool false) (.int .i64 (checkD a : Int)) Tryd.results51 rfl rfl rfl ?_
  exact ⟨[], Sub.z, rfl, rfl⟩
set_option maxHeartbeats 8000000 in
set_option maxRecDepth 20000 in
theorem shoOk (w : World) [Tab Tryd.prog w] (a : DFA) (k : DK) (ha : At w a k) (hv : Valid a) :
    PureT Tryd.prog 51 [dV a k] w fun v N => ∃ res, LeastA a res ∧ ShoV 5 0 v N res := by
  refine CallT.enter Tryd.func51 rfl Tryd.ntmps51 rfl ?_
  have he := checkD_zero.2 hv
  have haa : a.next.length < 9223372036854775807 := by have := hv.n4; omega
  have haar : ∀ r ∈ a.next, r.length < 9223372036854775807 := hv.bound
  have haaf : a.final.length < 9223372036854775807 := by have := hv.fin; omega
  have h4 := hv.n4
  have hww := hv.width
  have hsl := start_lt hv.toVal
  have hs0 := hv.s0
  have hs1 := hv.s1
  have hvl := ha.rows.1
  have hfin := hv.fin
  refine T.seq (T.region ?_)
  refine TO.loud rfl (l_box (v := (dV a k)) (cs := (dC a k)) rfl rfl (fun z1 => ?_))
  refine TO.quiet (q_assign rfl) (TO.quiet (q_assign rfl) (TO.quiet (q_assign rfl) ?_))
  refine TO.nil (T.seq (T.seq (T.region ?_)))
  refine TO.quiet (q_load_boxAgg 0 Tryd.underlying25 rfl inf25 rfl rfl rfl) ?_
  have hk12 := fun (w1 : World) (hI : Inv w [oI z1 25 (dC a k)] w1) => (haveI := Inv.tab (P := Tryd.prog) hI; subsetCheck w1 a k.nb k.fb k.nc k.fc (vals k.qs) (hI.dfa ha) haa haar haaf)
  refine TO.loud rfl (l_call ent26 (CallT.of_pure hk12) rfl ?_)
  clear hk12
  rintro vr O' ⟨N, rfl, rfl, rfl⟩
  rw [he]
  refine TO.quiet (q_assign rfl) ?_
  refine TO.nil (T.seq (T.region ?_))
  refine TO.quiet (q_move rfl) (TO.quiet (q_neq rfl rfl) ?_)
  refine TO.nil ?_
  refine T.cond0 rfl ?_
  refine T.skip (T.seq (T.region ?_))
  refine TO.quiet (q_fieldAddr Tryd.underlying25 rfl inf22 rfl rfl) (TO.quiet (q_load_box 0 Tryd.underlying22 rfl rfl rfl rfl) (TO.quiet (q_len Tryd.underlying22 rfl) ?_))
  refine TO.loud rfl (l_makeSlice (m := a.next.length) Tryd.underlying23 inf4 rfl rfl (by omega) (by omega) (fun z2 => ?_))
  refine TO.quiet (q_assign rfl) ?_
  refine TO.nil (T.seq (T.region ?_))
  refine TO.quiet (q_move rfl) (TO.quiet (q_fieldAddr Tryd.underlying25 rfl inf3 rfl rfl) (TO.quiet (q_load_box 1 Tryd.underlying3 rfl rfl rfl rfl) (TO.quiet (q_ixz (i := a.start) Tryd.underlying23 inf4 rfl rfl (rowO (List.mem_of_getElem? (i := 0) rfl)) (by first | assumption | omega) (by omega) (by rw [List.length_replicate]; omega)) ?_)))
  refine TO.loud rfl (l_st (j := a.start.toNat) (v := .bool true) (vs := [(.bool true)]) (cs := List.replicate a.next.length (.bool false)) 0 inf4 rfl rfl rfl rfl rfl (by simp) rfl (by rw [List.length_replicate]; simp; omega) ?_)
  refine TO.sub (O' := [rowI (some ⟨z2, 0, none⟩) a.next.length 4 1 (bools (seenB a (shq a 0))), oI z1 25 (dC a k)]) (by rw [show putL (List.replicate a.next.length (.bool false)) a.start.toNat [(.bool true)] = bools (seenB a (shq a 0)) from (by rw [← seenB_zero]; exact seenB_put [] hsl)]; exact Sub.of (List.Sublist.refl _)) ?_
  refine TO.nil (T.seq (T.seq (T.region ?_)))
  refine TO.quiet (q_fieldAddr Tryd.underlying25 rfl inf3 rfl rfl) (TO.quiet (q_load_box 1 Tryd.underlying3 rfl rfl rfl rfl) (TO.quiet (q_build (cs := [(.int .i64 a.start), (.slice none 0 0)]) plan118 inf118 (by kernel_rfl)) ?_))
  refine TO.loud rfl (l_buildSlice (m := 1) (parts := [(0, _)]) (cs := [(.int .i64 a.start), (.slice none 0 0)]) Tryd.underlying119 inf118 (by decide) (by kernel_rfl) rfl (fun z3 => ?_))
  refine TO.quiet (q_assign rfl) ?_
  refine TO.nil ?_
  refine T.nilRow 5 1 ?_
  refine T.sub (O' := [rowI (some ⟨z3, 0, none⟩) 1 118 2 [(.int .i64 a.start), (.slice none 0 0)], rowI (some ⟨z2, 0, none⟩) a.next.length 4 1 (bools (seenB a (shq a 0))), oI z1 25 (dC a k), rowI none 0 5 1 []]) (by exact Sub.pull [rowI none 0 5 1 []] _ (.pull [rowI none 0 5 1 []] _ (.pull [rowI none 0 5 1 []] _ (.k .z)))) ?_
  refine T.sub (O' := ([rowI (some ⟨z3, 0, none⟩) 1 118 2 (rcells [⟨(a.start.toNat, a.start.toNat), none, 0, []⟩]), rowI (some ⟨z2, 0, none⟩) a.next.length 4 1 (bools (seenB a (shq a 0))), oI z1 25 (dC a k)] ++ qitms 5 [⟨(a.start.toNat, a.start.toNat), none, 0, []⟩])) (by rw [show rcells [⟨(a.start.toNat, a.start.toNat), none, 0, []⟩] = [.int .i64 ((a.start.toNat : Nat) : Int), .slice none 0 0] from rfl, show ((a.start.toNat : Nat) : Int) = a.start from Int.toNat_of_nonneg hs0]; exact Sub.rf) ?_
  refine T.block ?_
  refine T.loop (fun (i : Nat) ρ O => ∃ (qb : Option Addr) (qc m : Nat) (rs : List QRec), O = ([rowI qb qc 118 2 (rcells rs), rowI (some ⟨z2, 0, none⟩) a.next.length 4 1 (bools (seenB a (shq a i))), oI z1 25 (dC a k)] ++ (qitms 5 rs)) ∧ m = rs.length ∧ rs.map QRec.stp = (shq a i).drop i ∧ (∀ j, j < i → ∃ q, (shq a j)[j]? = some q ∧ finN a q.1.1 = false) ∧ Heads [(0, (dV a k)), (1, (.pointer (some ⟨z1, 0, none⟩))), (5, .int .i64 0), (6, (.slice (some ⟨z2, 0, none⟩) a.next.length a.next.length)), (7, (.slice qb m qc))] ρ) (fun i => a.next.length - i) 0 ?_ ?_
  · exact ⟨_, _, 1, [⟨(a.start.toNat, a.start.toNat), none, 0, []⟩], rfl, rfl, rfl, fun j hj => absurd hj (by omega), ⟨rfl, rfl, rfl, rfl, rfl, trivial⟩⟩
  rintro i ρ O ⟨qb, qc, m, rs, rfl, hm, hrs, hj, hH⟩
  obtain ⟨ρ0, rfl⟩ := hH.elim
  clear hH
  refine T.seq (T.seq (T.region ?_))
  refine TO.quiet (q_move rfl) (TO.quiet (q_len Tryd.underlying119 rfl) (TO.quiet (q_gtr rfl rfl) ?_))
  refine TO.nil ?_
  refine T.condP rfl (fun hc => ?_) (fun hc => ?_)
  · have hlt30 : m > 0 := by omega
    refine T.skip (T.seq (T.block (T.seq ?_)))
    obtain ⟨q0, rest, rfl⟩ : ∃ q0 rest, rs = q0 :: rest := by
      cases rs with
      | nil => subst hm; exact absurd hc (by simp)
      | cons a l => exact ⟨a, l, rfl⟩
    obtain ⟨m, rfl⟩ : ∃ k, m = k + 1 := ⟨rest.length, hm⟩
    have hm : m = rest.length := by simpa using hm
    have hq0 : (shq a i)[i]? = some q0.stp := by
      have := congrArg List.head? hrs
      rw [List.head?_drop] at this
      simpa using this.symm
    have hmid := fun x (hx : x ≤ letN a) => sho_mid hv.toVal hj hq0 hx
    have hpd : q0.p = (q0.p.1, q0.p.1) := (hmid 0 (Nat.zero_le _)).2.1
    have hp1 : q0.p.1 < a.next.length := (hmid 0 (Nat.zero_le _)).2.2.1
    have hwl : q0.xs.length ≤ i := (hmid 0 (Nat.zero_le _)).2.2.2.1
    have hi9 := (hmid 0 (Nat.zero_le _)).2.2.2.2.1
    have hf1 : q0.p.1 < a.final.length := by omega
    obtain ⟨vb1, vc1, g1, s1⟩ := ha.rows.get hp1
    have hl1 : a.next[q0.p.1].length = 2 ^ a.vars.toNat := hv.len _ (List.getElem_mem hp1)
    refine T.region ?_
    refine TO.quiet (q_move rfl) (TO.quiet (q_ixK (i := 0) Tryd.underlying119 inf118 rfl rfl (rowO (List.mem_of_getElem? (i := 0) rfl)) (by omega) (by rw [rcells_len]; simp)) (TO.quiet (q_ldK (vs := [(.int .i64 ((q0.p.1 : Nat) : Int)), (.slice q0.b q0.xs.length q0.c)]) Tryd.underlying118 rfl inf118 rfl rfl (Nat.succ_pos _) (rowO (List.mem_of_getElem? (i := 0) rfl)) (by intro j hj; match j, hj with | 0, _ => rfl | 1, _ => rfl)) ?_))
    refine TO.loud rfl (l_alloc inf118 rfl (fun z4 => ?_))
    refine TO.loud rfl (l_store_box (v := (.agg #[(.int .i64 ((q0.p.1 : Nat) : Int)), (.slice q0.b q0.xs.length q0.c)])) (vs := [(.int .i64 ((q0.p.1 : Nat) : Int)), (.slice q0.b q0.xs.length q0.c)]) 0 inf118 rfl rfl rfl rfl rfl rfl (by simp [putL]) ?_)
    refine TO.nil (T.seq (T.seq (T.region ?_)))
    refine TO.quiet (q_fieldAddr Tryd.underlying25 rfl inf23 rfl rfl) (TO.quiet (q_load_box 3 Tryd.underlying23 rfl rfl rfl rfl) (TO.quiet (q_fieldAddr Tryd.underlying118 rfl inf3 rfl rfl) (TO.quiet (q_load_box 0 Tryd.underlying3 rfl rfl rfl rfl) ?_)))
    refine TO.quiet (q_ix (i := q0.p.1) Tryd.underlying23 inf4 rfl rfl (Sl.o ha.final) hf1 (by rw [List.length_map]; exact hf1)) (TO.quiet (q_ld Tryd.underlying4 rfl rfl (Sl.o ha.final) (bools_get hf1)) ?_)
    refine TO.nil ?_
    refine T.cond rfl (fun hc => ?_) (fun hc => ?_)
    · have hne : finN a q0.p.1 = true := by simpa [finN, hf1] using hc
      refine T.seq (T.region ?_)
      refine TO.quiet (q_fieldAddr Tryd.underlying118 rfl inf29 rfl rfl) (TO.quiet (q_load_box 0 Tryd.underlying29 rfl rfl rfl rfl) (TO.quiet (q_assign rfl) (TO.quiet (q_assign rfl) ?_)))
      refine TO.quiet (q_assign rfl) ?_
      refine TO.nil (T.ret (Res.drop ?_))
      refine Res.three (.slice q0.b q0.xs.length q0.c) (.bool true) (.int .i64 0) Tryd.results51 rfl rfl rfl ?_
      exact ⟨[QRec.itm 5 q0], (by show Sub _ ([oI z4 118 [(.int .i64 ((q0.p.1 : Nat) : Int)), (.slice q0.b q0.xs.length q0.c)], rowI qb qc 118 2 (rcells (q0 :: rest)), rowI (some ⟨z2, 0, none⟩) a.next.length 4 1 (bools (seenB a (shq a i))), oI z1 25 (dC a k)] ++ qitms 5 (q0 :: rest)); exact Sub.appL [oI z4 118 [(.int .i64 ((q0.p.1 : Nat) : Int)), (.slice q0.b q0.xs.length q0.c)], rowI qb qc 118 2 (rcells (q0 :: rest)), rowI (some ⟨z2, 0, none⟩) a.next.length 4 1 (bools (seenB a (shq a i))), oI z1 25 (dC a k)] (Sub.k Sub.z)), some q0.xs, ShR.least hv.toVal ⟨i, hj, q0.stp, hq0, hne, rfl⟩, q0.b, q0.c, rfl, rfl⟩
    have heq : finN a q0.p.1 = false := by simpa [finN, hf1] using hc
    refine T.skip (T.seq (T.region ?_))
    refine TO.quiet (q_fieldAddr Tryd.underlying25 rfl inf22 rfl rfl) (TO.quiet (q_load_box 3 Tryd.underlying22 rfl rfl rfl rfl) (TO.quiet (q_fieldAddr Tryd.underlying118 rfl inf3 rfl rfl) (TO.quiet (q_load_box 0 Tryd.underlying3 rfl rfl rfl rfl) ?_)))
    refine TO.quiet (q_ix (i := q0.p.1) Tryd.underlying22 inf54 rfl rfl (Sl.o ha.outer) hp1 (hvl ▸ hp1)) (TO.quiet (q_ld Tryd.underlying54 rfl rfl (Sl.o ha.outer) g1) (TO.quiet (q_len Tryd.underlying54 rfl) (TO.quiet (q_move rfl) ?_)))
    refine TO.nil (T.block ?_)
    refine T.sub (O' := ([rowI qb qc 118 2 (rcells (q0 :: rest)), rowI (some ⟨z2, 0, none⟩) a.next.length 4 1 (bools (seenB a (shq a i))), oI z4 118 [(.int .i64 ((q0.p.1 : Nat) : Int)), (.slice q0.b q0.xs.length q0.c)], oI z1 25 (dC a k)] ++ qitms 5 (q0 :: rest))) (Sub.pickR [1, 1, 0, 0] [oI z4 118 [(.int .i64 ((q0.p.1 : Nat) : Int)), (.slice q0.b q0.xs.length q0.c)], rowI qb qc 118 2 (rcells (q0 :: rest)), rowI (some ⟨z2, 0, none⟩) a.next.length 4 1 (bools (seenB a (shq a i))), oI z1 25 (dC a k)] (qitms 5 (q0 :: rest)) rfl rfl) ?_
    refine T.loop (fun (x : Nat) ρ O => ∃ (qb : Option Addr) (qc m : Nat) (rest : List QRec), O = ([rowI qb qc 118 2 (rcells (q0 :: rest)), rowI (some ⟨z2, 0, none⟩) a.next.length 4 1 (bools (seenB a (pushN a q0.stp (shq a i) x))), oI z4 118 [(.int .i64 ((q0.p.1 : Nat) : Int)), (.slice q0.b q0.xs.length q0.c)], oI z1 25 (dC a k)] ++ (qitms 5 (q0 :: rest))) ∧ x ≤ letN a ∧ m = rest.length ∧ (q0 :: rest).map QRec.stp = (pushN a q0.stp (shq a i) x).drop i ∧ Heads [(0, (dV a k)), (1, (.pointer (some ⟨z1, 0, none⟩))), (5, .int .i64 0), (6, (.slice (some ⟨z2, 0, none⟩) a.next.length a.next.length)), (7, (.slice qb (m + 1) qc)), (8, (.pointer (some ⟨z4, 0, none⟩))), (49, (.slice vb1 a.next[q0.p.1].length vc1)), (50, .int .i64 (a.next[q0.p.1].length : Int)), (51, .int .i64 ((x : Nat) : Int))] ρ) (fun x => letN a - x) 0 ?_ ?_
    · exact ⟨qb, qc, m, rest, rfl, Nat.zero_le _, hm, hrs, ⟨rfl, rfl, rfl, rfl, rfl, rfl, rfl, rfl, rfl, trivial⟩⟩
    rintro x ρ O ⟨qb, qc, m, rest, rfl, hx9, hm, hrs2, hH⟩
    obtain ⟨ρ0, rfl⟩ := hH.elim
    clear hH
    refine T.seq (T.region ?_)
    refine TO.quiet (q_lss rfl rfl) ?_
    refine TO.nil (T.seq ?_)
    refine T.condP rfl (fun hc => ?_) (fun hc => ?_)
    · have hlt52 : x < a.next[q0.p.1].length := by omega
      have hlx : x < letN a := by rw [hl1] at hlt52; exact hlt52
      refine T.skip (T.seq (T.block (T.seq ?_)))
      obtain ⟨hto, _, hxk1, hx1⟩ := hv.toN_lt hp1 hlx
      have hx1 : (ints a.next[q0.p.1])[x]? = some (.int .i64 ((toN a q0.p.1 x : Nat) : Int)) := by rw [ints_get hxk1, hx1]
      have hsd : suc2 a q0.p x = (toN a q0.p.1 x, toN a q0.p.1 x) := by rw [hpd]; rfl
      refine T.region ?_
      refine TO.quiet (q_move rfl) (TO.quiet (q_ix (i := x) Tryd.underlying54 inf3 rfl rfl (Sl.o s1) hlt52 (by rw [List.length_map]; exact hlt52)) (TO.quiet (q_ld Tryd.underlying3 rfl rfl (Sl.o s1) hx1) (TO.quiet (q_assign rfl) ?_)))
      refine TO.quiet (q_assign rfl) ?_
      refine TO.nil (T.seq (T.region ?_))
      refine TO.quiet (q_move rfl) (TO.quiet (q_move rfl) (TO.quiet (q_ix (i := (toN a q0.p.1 x)) Tryd.underlying23 inf4 rfl rfl (rowO (List.mem_of_getElem? (i := 1) rfl)) hto (by rw [List.length_map, seenB_len]; exact hto)) (TO.quiet (q_ld Tryd.underlying4 rfl rfl (rowO (List.mem_of_getElem? (i := 1) rfl)) (seenB_at hto)) ?_)))
      refine TO.quiet (QT.cast (q_not rfl) (v' := .bool (decide (¬ suc2 a q0.p x ∈ (pushN a q0.stp (shq a i) x).map Prod.fst))) (by rw [hsd]; simp)) ?_
      refine TO.nil ?_
      refine T.condP rfl (fun hc => ?_) (fun hc => ?_)
      · have hin : ¬ suc2 a q0.p x ∈ (pushN a q0.stp (shq a i) x).map Prod.fst := hc
        have hsc := fun w => show bools (seenB a ((pushN a q0.stp (shq a i) x) ++ [(suc2 a q0.p x, w)])) = bools (seenB a ((pushN a q0.stp (shq a i) x) ++ [(suc2 a q0.p x, w)])) from rfl
        have hrl : rest.length + 1 ≤ a.next.length := by
          have := congrArg List.length hrs2
          simp at this
          have := (hmid x hx9).1
          omega
        have hil := (hmid x hx9).2.2.2.2.2
        refine T.seq (T.region ?_)
        refine TO.quiet (q_move rfl) (TO.quiet (q_move rfl) (TO.quiet (q_ix (i := (toN a q0.p.1 x)) Tryd.underlying23 inf4 rfl rfl (rowO (List.mem_of_getElem? (i := 1) rfl)) hto (by rw [List.length_map, seenB_len]; exact hto)) ?_))
        refine TO.loud rfl (l_st (j := (toN a q0.p.1 x)) (v := .bool true) (vs := [(.bool true)]) (cs := bools (seenB a (pushN a q0.stp (shq a i) x))) 1 inf4 rfl rfl rfl rfl rfl (by simp) rfl (by rw [List.length_map, seenB_len]; simp; omega) ?_)
        refine TO.sub (O' := ([rowI qb qc 118 2 (rcells (q0 :: rest)), rowI (some ⟨z2, 0, none⟩) a.next.length 4 1 (bools (seenB a ((pushN a q0.stp (shq a i) x) ++ [(suc2 a q0.p x, q0.xs ++ [x])]))), oI z4 118 [(.int .i64 ((q0.p.1 : Nat) : Int)), (.slice q0.b q0.xs.length q0.c)], oI z1 25 (dC a k)] ++ (qitms 5 (q0 :: rest)))) (by rw [show putL (bools (seenB a (pushN a q0.stp (shq a i) x))) (toN a q0.p.1 x) [(.bool true)] = bools (seenB a ((pushN a q0.stp (shq a i) x) ++ [(suc2 a q0.p x, q0.xs ++ [x])])) from (by rw [hsd]; exact seenB_put _ hto)]; exact Sub.of (List.Sublist.refl _)) ?_
        refine TO.nil (T.region ?_)
        refine TO.quiet (q_move rfl) (TO.quiet (q_move rfl) (TO.quiet (q_fieldAddr Tryd.underlying118 rfl inf29 rfl rfl) (TO.quiet (q_load_box 2 Tryd.underlying29 rfl rfl rfl rfl) ?_)))
        have hk68 := fun (w1 : World) (hI : Inv w ([rowI qb qc 118 2 (rcells (q0 :: rest)), rowI (some ⟨z2, 0, none⟩) a.next.length 4 1 (bools (seenB a ((pushN a q0.stp (shq a i) x) ++ [(suc2 a q0.p x, q0.xs ++ [x])]))), oI z4 118 [(.int .i64 ((q0.p.1 : Nat) : Int)), (.slice q0.b q0.xs.length q0.c)], oI z1 25 (dC a k)] ++ (qitms 5 (q0 :: rest))) w1) => (haveI := Inv.tab (P := Tryd.prog) hI; cloneC w1 q0.b q0.c q0.xs (hI.slOf (T := 5) (k := 1) (List.mem_append_right _ List.mem_cons_self)) (by omega))
        refine TO.loud rfl (l_call ent66 (CallT.of_pure hk68) rfl ?_)
        clear hk68
        rintro vr O' ⟨N, rfl, wb, wc, rfl, rfl⟩
        refine TO.quiet (q_move rfl) (TO.quiet (q_conv_id Tryd.underlying3 Tryd.underlying5 rfl (wrap8 (by omega))) ?_)
        refine TO.loud rfl (l_build1 (v := .int .u8 ((x : Nat) : Int)) Tryd.underlying29 inf5 rfl rfl rfl (fun z5 => ?_))
        refine TO.loud rfl (l_append 1 Tryd.underlying29 Tryd.underlying29 inf5 rfl rfl rfl rfl (by rw [List.length_map, Nat.mul_one]) (by decide) (Src.row (j := 0) rfl (by simp)) (by simp [oneB]) (by omega) (by decide) (by decide) (fun z6 zc7 => ?_))
        refine TO.quiet (q_build (cs := [.int .i64 ((toN a q0.p.1 x : Nat) : Int), (.slice z6 (q0.xs.length + 1) zc7)]) plan118 inf118 (by kernel_rfl)) ?_
        refine TO.loud rfl (l_buildSlice (m := 1) (parts := [(0, _)]) (cs := [.int .i64 ((toN a q0.p.1 x : Nat) : Int), (.slice z6 (q0.xs.length + 1) zc7)]) Tryd.underlying119 inf118 (by decide) (by kernel_rfl) rfl (fun z8 => ?_))
        refine TO.loud rfl (l_append 3 Tryd.underlying119 Tryd.underlying119 inf118 rfl rfl rfl rfl (by rw [rcells_len, hm]; rfl) (by decide) (Src.row (j := 0) rfl (by simp)) (by simp [oneB]) (by omega) (by decide) (by decide) (fun z9 zc10 => ?_))
        refine TO.quiet (q_assign rfl) ?_
        refine TO.nil ?_
        obtain ⟨wb2, hwb2⟩ : ∃ z, z = z6 := ⟨_, rfl⟩
        obtain ⟨wc2, hwc2⟩ : ∃ z, z = zc7 := ⟨_, rfl⟩
        refine T.sub (O' := ([rowI z9 zc10 118 2 ((rcells (q0 :: rest)) ++ [.int .i64 ((toN a q0.p.1 x : Nat) : Int), (.slice z6 (q0.xs.length + 1) zc7)]), rowI (some ⟨z2, 0, none⟩) a.next.length 4 1 (bools (seenB a ((pushN a q0.stp (shq a i) x) ++ [(suc2 a q0.p x, q0.xs ++ [x])]))), oI z4 118 [(.int .i64 ((q0.p.1 : Nat) : Int)), (.slice q0.b q0.xs.length q0.c)], oI z1 25 (dC a k), rowI z6 zc7 5 1 ((byts q0.xs) ++ [.int .u8 ((x : Nat) : Int)])] ++ qitms 5 (q0 :: rest))) (Sub.pickR [3, 3, 3, 3, 2] [rowI (some ⟨z8, 0, none⟩) 1 118 2 [.int .i64 ((toN a q0.p.1 x : Nat) : Int), (.slice z6 (q0.xs.length + 1) zc7)], rowI (some ⟨z5, 0, none⟩) 1 5 1 [.int .u8 ((x : Nat) : Int)], rowI z6 zc7 5 1 ((byts q0.xs) ++ [.int .u8 ((x : Nat) : Int)]), rowI z9 zc10 118 2 ((rcells (q0 :: rest)) ++ [.int .i64 ((toN a q0.p.1 x : Nat) : Int), (.slice z6 (q0.xs.length + 1) zc7)]), rowI (some ⟨z2, 0, none⟩) a.next.length 4 1 (bools (seenB a ((pushN a q0.stp (shq a i) x) ++ [(suc2 a q0.p x, q0.xs ++ [x])]))), oI z4 118 [(.int .i64 ((q0.p.1 : Nat) : Int)), (.slice q0.b q0.xs.length q0.c)], oI z1 25 (dC a k)] (qitms 5 (q0 :: rest)) rfl rfl) ?_
        refine T.sub (O' := ([rowI z9 zc10 118 2 ((rcells (q0 :: rest)) ++ [.int .i64 ((toN a q0.p.1 x : Nat) : Int), (.slice z6 (q0.xs.length + 1) zc7)]), rowI (some ⟨z2, 0, none⟩) a.next.length 4 1 (bools (seenB a ((pushN a q0.stp (shq a i) x) ++ [(suc2 a q0.p x, q0.xs ++ [x])]))), oI z4 118 [(.int .i64 ((q0.p.1 : Nat) : Int)), (.slice q0.b q0.xs.length q0.c)], oI z1 25 (dC a k)] ++ qitms 5 (q0 :: (rest ++ [⟨suc2 a q0.p x, wb2, wc2, q0.xs ++ [x]⟩])))) (by rw [show qitms 5 (q0 :: (rest ++ [⟨suc2 a q0.p x, wb2, wc2, q0.xs ++ [x]⟩])) = qitms 5 (q0 :: rest) ++ [rowI z6 zc7 5 1 ((byts q0.xs) ++ [.int .u8 ((x : Nat) : Int)])] by subst hwb2; subst hwc2; simp [QRec.itm]]; exact Sub.foldN [rowI z9 zc10 118 2 ((rcells (q0 :: rest)) ++ [.int .i64 ((toN a q0.p.1 x : Nat) : Int), (.slice z6 (q0.xs.length + 1) zc7)]), rowI (some ⟨z2, 0, none⟩) a.next.length 4 1 (bools (seenB a ((pushN a q0.stp (shq a i) x) ++ [(suc2 a q0.p x, q0.xs ++ [x])]))), oI z4 118 [(.int .i64 ((q0.p.1 : Nat) : Int)), (.slice q0.b q0.xs.length q0.c)], oI z1 25 (dC a k)] (rowI z6 zc7 5 1 ((byts q0.xs) ++ [.int .u8 ((x : Nat) : Int)])) (qitms 5 (q0 :: rest)) _ rfl) ?_
        refine T.region ?_
        refine TO.quiet (q_addN (a := x) (b := 1) rfl rfl (by omega)) (TO.quiet (q_move rfl) ?_)
        refine TO.nil ?_
        have hA : pushN a q0.stp (shq a i) (x + 1) = (pushN a q0.stp (shq a i) x) ++ [(suc2 a q0.p x, q0.xs ++ [x])] := by
          show pushS a q0.stp _ x = _
          unfold pushS
          exact if_neg hin
        refine ⟨x + 1, by omega, z9, zc10, m + 1, rest ++ [⟨suc2 a q0.p x, wb2, wc2, q0.xs ++ [x]⟩], ?_, by omega, by simp [hm], ?_, ⟨rfl, rfl, rfl, rfl, rfl, rfl, rfl, rfl, rfl, trivial⟩⟩
        · rw [hA, hsc, show rcells (q0 :: (rest ++ [⟨suc2 a q0.p x, wb2, wc2, q0.xs ++ [x]⟩])) = rcells (q0 :: rest) ++ [(.int .i64 ((toN a q0.p.1 x : Nat) : Int)), (.slice wb2 (q0.xs.length + 1) wc2)] by simp [QRec.cel, suc2]]; subst hwb2; subst hwc2; rfl
        · rw [hA, List.drop_append_of_le_length (by omega), ← hrs2]; simp [QRec.stp]
      have hin : suc2 a q0.p x ∈ (pushN a q0.stp (shq a i) x).map Prod.fst := Classical.not_not.1 hc
      have hil := (hmid x hx9).2.2.2.2.2
      refine T.skip (T.region ?_)
      refine TO.quiet (q_addN (a := x) (b := 1) rfl rfl (by omega)) (TO.quiet (q_move rfl) ?_)
      refine TO.nil ?_
      have hA : pushN a q0.stp (shq a i) (x + 1) = (pushN a q0.stp (shq a i) x) := by
        show pushS a q0.stp _ x = _
        unfold pushS
        exact if_pos hin
      refine ⟨x + 1, by omega, qb, qc, m, rest, by rw [hA], by omega, hm, by rw [hA]; exact hrs2, ⟨rfl, rfl, rfl, rfl, rfl, rfl, rfl, rfl, rfl, trivial⟩⟩
    have hge52 : ¬ x < a.next[q0.p.1].length := by omega
    refine T.exit ?_
    refine T.region ?_
    refine TO.quiet (q_move rfl) ?_
    refine TO.loud rfl (l_tail 0 Tryd.underlying119 inf118 (by decide) rfl rfl rfl (by rw [rcells_len, hm]; rfl) (by omega) (fun z11 => ?_))
    refine TO.quiet (q_assign rfl) ?_
    refine TO.sub (O' := ([rowI z11 (qc - 1) 118 2 (rcells rest), rowI (some ⟨z2, 0, none⟩) a.next.length 4 1 (bools (seenB a (pushN a q0.stp (shq a i) x))), oI z1 25 (dC a k)] ++ qitms 5 (q0 :: rest))) (Sub.pickR [0, 0, 1] [rowI z11 (qc - 1) 118 2 (rcells rest), rowI (some ⟨z2, 0, none⟩) a.next.length 4 1 (bools (seenB a (pushN a q0.stp (shq a i) x))), oI z4 118 [(.int .i64 ((q0.p.1 : Nat) : Int)), (.slice q0.b q0.xs.length q0.c)], oI z1 25 (dC a k)] (qitms 5 (q0 :: rest)) rfl rfl) ?_
    refine TO.sub (O' := ([rowI z11 (qc - 1) 118 2 (rcells rest), rowI (some ⟨z2, 0, none⟩) a.next.length 4 1 (bools (seenB a (pushN a q0.stp (shq a i) x))), oI z1 25 (dC a k)] ++ qitms 5 rest)) (by exact Sub.k (Sub.k (Sub.k (Sub.d Sub.rf)))) ?_
    refine TO.nil ?_
    have hxe : x = letN a := Nat.le_antisymm hx9 (by rw [hl1] at hge52; exact Nat.le_of_not_lt hge52)
    have hbq : pushN a q0.stp (shq a i) x = shq a (i + 1) := by rw [hxe]; exact (bq_succ hq0).symm
    refine ⟨i + 1, by omega, z11, qc - 1, m, rest, by rw [hbq], hm, ?_, ?_, ⟨rfl, rfl, rfl, rfl, rfl, trivial⟩⟩
    · rw [← hbq]; have := congrArg List.tail hrs2; simpa [List.tail_drop] using this
    · intro j hj9
      by_cases e : j = i
      · subst e; exact ⟨q0.stp, hq0, heq⟩
      · exact hj j (by omega)
  have hge30 : ¬ m > 0 := by omega
  refine T.exit ?_
  refine T.seq (T.region ?_)
  refine TO.quiet (q_assign rfl) (TO.quiet (q_assign rfl) (TO.quiet (q_assign rfl) ?_))
  refine TO.nil (T.ret (Res.drop ?_))
  refine Res.three (.slice none 0 0) (.bool false) (.int .i64 0) Tryd.results51 rfl rfl rfl ?_
  have hend : (shq a i).length ≤ i := by
    have := congrArg List.length hrs
    simp at this
    omega
  exact ⟨[], Sub.z, none, ShR.least hv.toVal (res := none) ⟨i, hj, hend⟩, rfl, rfl⟩
end Go.Proofs.YtnpehjpookcfkaaDoor

namespace Go.Proofs.YtnpehjpookcfkaaDoor
open Go.Lx Go.RowKit
set_option linter.unusedVariables false
set_option linter.unusedSimpArgs false
theorem orZ (w : World) [Tab Tryd.prog w] {z a b : DFA} {p q : List Nat → Bool} (hz : Valid z) (ha : InL z a p) (hb : InL z b q) (j k : DK) (hj : At w a j) (hk : At w b k) {M : DFA} (hM : opD orB a b = M) :
    PureT Tryd.prog 32 [dV a j, dV b k] w fun v N => ∃ k' : DK, v = .tuple #[dV M k', .int .i64 0] ∧ N = [dI 54 4 3 M k'] := by
  have b1 := ha.bds
  have b2 := hb.bds
  have h := orC w a b j k hj hk b1.1 b1.2.1 b1.2.2 b2.1 b2.2.1 b2.2.2 (fun _ => InL.ord hz ha hb)
  rw [opV_ok (ha.wrong hb), ha.wrong hb, hM] at h
  exact h
theorem andZ (w : World) [Tab Tryd.prog w] {z a b : DFA} {p q : List Nat → Bool} (hz : Valid z) (ha : InL z a p) (hb : InL z b q) (j k : DK) (hj : At w a j) (hk : At w b k) {M : DFA} (hM : opD andB a b = M) :
    PureT Tryd.prog 25 [dV a j, dV b k] w fun v N => ∃ k' : DK, v = .tuple #[dV M k', .int .i64 0] ∧ N = [dI 54 4 3 M k'] := by
  have b1 := ha.bds
  have b2 := hb.bds
  have h := andC w a b j k hj hk b1.1 b1.2.1 b1.2.2 b2.1 b2.2.1 b2.2.2 (fun _ => InL.ord hz ha hb)
  rw [opV_ok (ha.wrong hb), ha.wrong hb, hM] at h
  exact h
theorem minusZ (w : World) [Tab Tryd.prog w] {z a b : DFA} {p q : List Nat → Bool} (hz : Valid z) (ha : InL z a p) (hb : InL z b q) (j k : DK) (hj : At w a j) (hk : At w b k) {M : DFA} (hM : opD minusB a b = M) :
    PureT Tryd.prog 30 [dV a j, dV b k] w fun v N => ∃ k' : DK, v = .tuple #[dV M k', .int .i64 0] ∧ N = [dI 54 4 3 M k'] := by
  have b1 := ha.bds
  have b2 := hb.bds
  have h := minusC w a b j k hj hk b1.1 b1.2.1 b1.2.2 b2.1 b2.2.1 b2.2.2 (fun _ => InL.ord hz ha hb)
  rw [opV_ok (ha.wrong hb), ha.wrong hb, hM] at h
  exact h
theorem notZ0 (w : World) [Tab Tryd.prog w] {z a : DFA} {p : List Nat → Bool} (hz : Valid z) (ha : InL z a p) (j : DK) (hj : At w a j) {M : DFA} (hM : notD a = M) :
    PureT Tryd.prog 60 [dV a j] w fun v N => ∃ k' : DK, v = .tuple #[dV M k', .int .i64 0] ∧ N = [dI 54 4 3 M k'] := by
  have b1 := ha.bds
  have h := notC w a j hj b1.1 b1.2.1 b1.2.2
  rw [opV_ok (ha.wrong ha), checkD_zero.2 ha.has.valid, show opD notB a a = M from hM] at h
  exact h
theorem shoK (w : World) [Tab Tryd.prog w] (a : DFA) (k : DK) (ha : At w a k) (hv : Valid a) :
    PureT Tryd.prog 51 [dV a k] w fun v N => ∃ res wb wc, LeastA a res ∧ v = .tuple #[.slice wb (res.getD []).length wc, .bool res.isSome, .int .i64 0] ∧ N = [rowI wb wc 5 1 (byts (res.getD []))] := by
  refine (CallT.nilOr 5 1 (shoOk w a k ha hv)).mono ?_
  rintro v N ⟨O2, hN, res, hL, hV⟩
  cases res with
  | none =>
    obtain ⟨rfl, rfl⟩ := hV
    exact ⟨none, none, 0, hL, rfl, hN.2 rfl⟩
  | some u =>
    obtain ⟨b, c, rfl, rfl⟩ := hV
    exact ⟨some u, b, c, hL, rfl, hN.1 (by simp)⟩
set_option maxHeartbeats 1000000 in
set_option maxRecDepth 20000 in
theorem conCheck (w : World) [Tab Tryd.prog w] (a g : DFA) (j k : DK) (ha : At w a j) (hg : At w g k) (ba : a.next.length < 9223372036854775807 ∧ (∀ r ∈ a.next, r.length < 9223372036854775807) ∧ a.final.length < 9223372036854775807) (bg : g.next.length < 9223372036854775807 ∧ (∀ r ∈ g.next, r.length < 9223372036854775807) ∧ g.final.length < 9223372036854775807) :
    PureT Tryd.prog 27 [cV a g j k] w fun v N => v = .int .i64 (cE a g : Int) ∧ N = [] := by
  refine CallT.enter Tryd.func27 rfl Tryd.ntmps27 rfl ?_
  refine T.seq (T.region ?_)
  refine TO.loud rfl (l_box (v := (cV a g j k)) (cs := (cC a g j k)) rfl rfl (fun bx1 => ?_))
  refine TO.quiet (q_assign rfl) ?_
  refine TO.nil (T.seq (T.seq (T.region ?_)))
  refine TO.quiet (q_fieldAddr Tryd.underlying27 rfl inf25 rfl rfl) (TO.quiet (q_load_part 0 (vs := (dC a j)) Tryd.underlying25 rfl inf25 rfl rfl rfl rfl) (TO.quiet (q_fieldAddr Tryd.underlying27 rfl inf25 rfl rfl) (TO.quiet (q_load_part 0 (vs := (dC g k)) Tryd.underlying25 rfl inf25 rfl rfl rfl rfl) ?_)))
  refine TO.quiet (q_buildA (cs := (cC a g j k)) Tryd.underlying51 inf25 inf51 (by kernel_rfl)) (TO.quiet (q_move rfl) ?_)
  refine TO.nil (T.block ?_)
  refine T.rounds 3 (T.round ?_)
  refine T.seq (T.region ?_)
  refine TO.quiet (QT.toB (q_lss rfl rfl) (b' := true) rfl) ?_
  refine TO.nil (T.seq ?_)
  refine T.cond1 rfl ?_
  refine T.skip (T.seq (T.block (T.seq (T.region ?_))))
  refine TO.quiet (q_indexA (i := 0) (vs := (dC a j)) Tryd.underlying51 Tryd.underlying25 rfl inf25 rfl rfl (by decide) rfl) ?_
  refine TO.loud rfl (l_alloc inf25 rfl (fun bx2 => ?_))
  refine TO.loud rfl (l_store_box (v := (dV a j)) (vs := (dC a j)) 0 inf25 rfl rfl rfl rfl rfl rfl (by simp [putL]) ?_)
  refine TO.nil (T.seq (T.region ?_))
  refine TO.quiet (q_load_boxAgg 0 Tryd.underlying25 rfl inf25 rfl rfl rfl) ?_
  have hk15 := fun (w1 : World) (hI : Inv w [oI bx2 25 (dC a j), oI bx1 27 (cC a g j k)] w1) => (haveI := Inv.tab (P := Tryd.prog) hI; subsetCheck w1 a j.nb j.fb j.nc j.fc (vals j.qs) (hI.dfa ha) ba.1 ba.2.1 ba.2.2)
  refine TO.loud rfl (l_call ent26 (CallT.of_pure hk15) rfl ?_)
  clear hk15
  rintro vr O' ⟨N, rfl, rfl, rfl⟩
  refine TO.quiet (q_assign rfl) ?_
  refine TO.nil (T.seq (T.region ?_))
  refine TO.quiet (q_move rfl) (TO.quiet (q_neq rfl rfl) ?_)
  refine TO.nil ?_
  refine T.condP rfl (fun hc => ?_) (fun hc => ?_)
  · have hlt17 : checkD a ≠ 0 := by omega
    refine T.seq (T.region ?_)
    refine TO.quiet (q_move rfl) (TO.quiet (q_assign rfl) ?_)
    refine TO.nil (T.ret (Res.drop ?_))
    refine Res.one (.int .i64 (checkD a : Int)) Tryd.results27 rfl ?_
    exact ⟨[], Sub.z, by rw [cE_first (by omega)], rfl⟩
  have hge17 : ¬ checkD a ≠ 0 := by omega
  refine T.skip (T.region ?_)
  refine TO.quiet (QT.cast (q_add64 rfl rfl (by omega)) (v' := .int .i64 1) rfl) (TO.quiet (q_move rfl) ?_)
  refine TO.nil ?_
  refine T.round ?_
  refine T.seq (T.region ?_)
  refine TO.quiet (QT.toB (q_lss rfl rfl) (b' := true) rfl) ?_
  refine TO.nil (T.seq ?_)
  refine T.cond1 rfl ?_
  refine T.skip (T.seq (T.block (T.seq (T.region ?_))))
  refine TO.quiet (q_indexA (i := 1) (vs := (dC g k)) Tryd.underlying51 Tryd.underlying25 rfl inf25 rfl rfl (by decide) rfl) ?_
  refine TO.loud rfl (l_alloc inf25 rfl (fun bx3 => ?_))
  refine TO.loud rfl (l_store_box (v := (dV g k)) (vs := (dC g k)) 0 inf25 rfl rfl rfl rfl rfl rfl (by simp [putL]) ?_)
  refine TO.nil (T.seq (T.region ?_))
  refine TO.quiet (q_load_boxAgg 0 Tryd.underlying25 rfl inf25 rfl rfl rfl) ?_
  have hk15 := fun (w1 : World) (hI : Inv w [oI bx3 25 (dC g k), oI bx2 25 (dC a j), oI bx1 27 (cC a g j k)] w1) => (haveI := Inv.tab (P := Tryd.prog) hI; subsetCheck w1 g k.nb k.fb k.nc k.fc (vals k.qs) (hI.dfa hg) bg.1 bg.2.1 bg.2.2)
  refine TO.loud rfl (l_call ent26 (CallT.of_pure hk15) rfl ?_)
  clear hk15
  rintro vr O' ⟨N, rfl, rfl, rfl⟩
  refine TO.quiet (q_assign rfl) ?_
  refine TO.nil (T.seq (T.region ?_))
  refine TO.quiet (q_move rfl) (TO.quiet (q_neq rfl rfl) ?_)
  refine TO.nil ?_
  refine T.condP rfl (fun hc => ?_) (fun hc => ?_)
  · have hlt17 : checkD g ≠ 0 := by omega
    refine T.seq (T.region ?_)
    refine TO.quiet (q_move rfl) (TO.quiet (q_assign rfl) ?_)
    refine TO.nil (T.ret (Res.drop ?_))
    refine Res.one (.int .i64 (checkD g : Int)) Tryd.results27 rfl ?_
    exact ⟨[], Sub.z, by rw [cE_second (by omega) (by omega)], rfl⟩
  have hge17 : ¬ checkD g ≠ 0 := by omega
  refine T.skip (T.region ?_)
  refine TO.quiet (QT.cast (q_add64 rfl rfl (by omega)) (v' := .int .i64 2) rfl) (TO.quiet (q_move rfl) ?_)
  refine TO.nil ?_
  refine T.round ?_
  refine T.seq (T.region ?_)
  refine TO.quiet (QT.toB (q_lss rfl rfl) (b' := false) rfl) ?_
  refine TO.nil (T.seq ?_)
  refine T.cond0 rfl ?_
  refine T.exit ?_
  refine T.seq (T.seq (T.region ?_))
  refine TO.quiet (q_fieldAddr Tryd.underlying27 rfl inf25 rfl rfl) (TO.quiet (q_fieldAddr Tryd.underlying25 rfl inf3 rfl rfl) (TO.quiet (q_load_box 2 Tryd.underlying3 rfl rfl rfl rfl) (TO.quiet (q_fieldAddr Tryd.underlying27 rfl inf25 rfl rfl) ?_)))
  refine TO.quiet (q_fieldAddr Tryd.underlying25 rfl inf3 rfl rfl) (TO.quiet (q_load_box 2 Tryd.underlying3 rfl rfl rfl rfl) (TO.quiet (q_neq rfl rfl) ?_))
  refine TO.nil ?_
  refine T.condP rfl (fun hc => ?_) (fun hc => ?_)
  · refine T.seq ?_
    refine T.region ?_
    refine TO.quiet (q_assign rfl) ?_
    refine TO.nil (T.ret (Res.drop ?_))
    refine Res.one (.int .i64 7) Tryd.results27 rfl ?_
    exact ⟨[], Sub.z, by rw [cE_vars (by omega) (by omega) hc]; rfl, rfl⟩
  refine T.skip (T.seq (T.region ?_))
  refine TO.quiet (q_assign rfl) ?_
  refine TO.nil (T.ret (Res.drop ?_))
  refine Res.one (.int .i64 0) Tryd.results27 rfl ?_
  exact ⟨[], Sub.z, by rw [cE_ok (by omega) (by omega) (Classical.not_not.1 hc)]; rfl, rfl⟩
set_option maxHeartbeats 1000000 in
set_option maxRecDepth 20000 in
theorem doS (base : World) [Tab Tryd.prog base] (L : List Lx.Item) (sb : Nat) (a b : DFA) (j k : DK) (g : Nat) {fn : Func} (hen : Lx.Enters Tryd.prog g fn) {M : DFA} (hop : ∀ w1, Inv base L w1 → PureT Tryd.prog g [dV a j, dV b k] w1 fun v N => ∃ k' : DK, v = .tuple #[dV M k', .int .i64 0] ∧ N = [dI 54 4 3 M k']) :
    CallT Tryd.prog base 28 [.pointer (some ⟨sb, 0, none⟩), .func (.func g) #[] #[], dV a j, dV b k] ([oI sb 59 [(.int .i64 0)]] ++ L) (fun v O' => ∃ k' : DK, v = dV M k' ∧ O' = [dI 54 4 3 M k', oI sb 59 [(.int .i64 0)]] ++ L) := by
  refine CallT.enter Tryd.func28 rfl Tryd.ntmps28 rfl ?_
  refine T.seq (T.region ?_)
  refine TO.loud rfl (l_box (v := (dV a j)) (cs := (dC a j)) rfl rfl (fun y1 => ?_))
  refine TO.loud rfl (l_box (v := (dV b k)) (cs := (dC b k)) rfl rfl (fun y2 => ?_))
  refine TO.loud rfl (l_alloc inf25 rfl (fun y3 => ?_))
  refine TO.nil (T.seq (T.seq (T.region ?_)))
  refine TO.quiet (q_move rfl) (TO.quiet (q_nilCheck rfl) (TO.quiet (q_fieldAddr Tryd.underlying59 rfl inf33 rfl rfl) (TO.quiet (q_load_box 3 Tryd.underlying33 rfl rfl rfl rfl) ?_)))
  refine TO.quiet (QT.toB (q_neq rfl rfl) (decide_eq_false (fun h => h rfl))) ?_
  refine TO.nil ?_
  refine T.cond0 rfl ?_
  refine T.skip (T.seq (T.region ?_))
  refine TO.loud rfl (l_alloc inf25 rfl (fun y4 => ?_))
  refine TO.nil (T.seq (T.region ?_))
  refine TO.quiet (q_move rfl) (TO.quiet (q_move rfl) (TO.quiet (q_load_boxAgg 3 Tryd.underlying25 rfl inf25 rfl rfl rfl) (TO.quiet (q_load_boxAgg 2 Tryd.underlying25 rfl inf25 rfl rfl rfl) ?_)))
  have hk21 := CallV.under (A := L) (B := [oI y4 25 [(.int .i64 0), (.int .i64 0), (.slice none 0 0), (.slice none 0 0)], oI y3 25 [(.int .i64 0), (.int .i64 0), (.slice none 0 0), (.slice none 0 0)], oI y2 25 (dC b k), oI y1 25 (dC a j), oI sb 59 [(.int .i64 0)]]) (O := ([oI y4 25 [(.int .i64 0), (.int .i64 0), (.slice none 0 0), (.slice none 0 0)], oI y3 25 [(.int .i64 0), (.int .i64 0), (.slice none 0 0), (.slice none 0 0)], oI y2 25 (dC b k), oI y1 25 (dC a j), oI sb 59 [(.int .i64 0)]] ++ L)) (CallV.of_fn (first := []) (args := [dV a j, dV b k]) (caps := []) hen (CallT.of_pure hop)) (by exact Sub.swap3 [] L [oI y4 25 [(.int .i64 0), (.int .i64 0), (.slice none 0 0), (.slice none 0 0)], oI y3 25 [(.int .i64 0), (.int .i64 0), (.slice none 0 0), (.slice none 0 0)], oI y2 25 (dC b k), oI y1 25 (dC a j), oI sb 59 [(.int .i64 0)]])
  refine TO.loud rfl (l_callG hk21 rfl rfl ?_)
  clear hk21
  rintro vr O' ⟨A1, rfl, N, rfl, k', rfl, rfl⟩
  refine TO.sub (O' := ([dI 54 4 3 M k', oI y4 25 [(.int .i64 0), (.int .i64 0), (.slice none 0 0), (.slice none 0 0)], oI y3 25 [(.int .i64 0), (.int .i64 0), (.slice none 0 0), (.slice none 0 0)], oI y2 25 (dC b k), oI y1 25 (dC a j), oI sb 59 [(.int .i64 0)]] ++ L)) (by exact Sub.swap3 [dI 54 4 3 M k'] [oI y4 25 [(.int .i64 0), (.int .i64 0), (.slice none 0 0), (.slice none 0 0)], oI y3 25 [(.int .i64 0), (.int .i64 0), (.slice none 0 0), (.slice none 0 0)], oI y2 25 (dC b k), oI y1 25 (dC a j), oI sb 59 [(.int .i64 0)]] L) ?_
  refine TO.quiet (q_move rfl) (TO.quiet (q_extract (vs := _) rfl rfl) (TO.quiet (q_extract (vs := _) rfl rfl) ?_))
  refine TO.loud rfl (l_store_box (v := (dV M k')) (vs := (dC M k')) 1 inf25 rfl rfl rfl rfl rfl rfl (by simp [putL]) ?_)
  refine TO.quiet (q_nilCheck rfl) (TO.quiet (q_fieldAddr Tryd.underlying59 rfl inf33 rfl rfl) ?_)
  refine TO.loud rfl (l_store_box (v := .int .i64 0) (vs := [(.int .i64 0)]) 5 inf33 rfl rfl rfl rfl rfl rfl (by simp [putL]) ?_)
  refine TO.nil (T.seq (T.region ?_))
  refine TO.quiet (q_load_boxAgg 1 Tryd.underlying25 rfl inf25 rfl rfl rfl) ?_
  refine TO.loud rfl (l_store_box (v := (dV M k')) (vs := (dC M k')) 2 inf25 rfl rfl rfl rfl rfl rfl (by simp [putL]) ?_)
  refine TO.nil (T.ret (Res.drop ?_))
  refine Res.cell1 (i := 2) Tryd.results28 Tryd.underlying25 rfl inf25 rfl rfl rfl ?_
  exact ⟨[dI 54 4 3 M k', oI sb 59 [(.int .i64 0)]] ++ L, (Sub.pickR [0, 4] [dI 54 4 3 M k', oI y4 25 (dC M k'), oI y3 25 (dC M k'), oI y2 25 (dC b k), oI y1 25 (dC a j), oI sb 59 [(.int .i64 0)]] L rfl rfl), k', rfl, rfl⟩
set_option maxHeartbeats 1000000 in
set_option maxRecDepth 20000 in
theorem doB (base : World) [Tab Tryd.prog base] (L : List Lx.Item) (sb : Nat) (c d : DFA) (m n : DK) (a b : DFA) (j k : DK) (g : Nat) {fn : Func} (hen : Lx.Enters Tryd.prog g fn) {M : DFA} (hop : ∀ w1, Inv base L w1 → PureT Tryd.prog g [dV a j, dV b k] w1 fun v N => ∃ k' : DK, v = .tuple #[dV M k', .int .i64 0] ∧ N = [dI 54 4 3 M k']) :
    CallT Tryd.prog base 28 [.pointer (some ⟨sb, 0, none⟩), .func (.func g) #[] #[], dV a j, dV b k] ([oI sb 65 (bC (.int .i64 0) c d m n)] ++ L) (fun v O' => ∃ k' : DK, v = dV M k' ∧ O' = [dI 54 4 3 M k', oI sb 65 (bC (.int .i64 0) c d m n)] ++ L) := by
  refine CallT.enter Tryd.func28 rfl Tryd.ntmps28 rfl ?_
  refine T.seq (T.region ?_)
  refine TO.loud rfl (l_box (v := (dV a j)) (cs := (dC a j)) rfl rfl (fun y1 => ?_))
  refine TO.loud rfl (l_box (v := (dV b k)) (cs := (dC b k)) rfl rfl (fun y2 => ?_))
  refine TO.loud rfl (l_alloc inf25 rfl (fun y3 => ?_))
  refine TO.nil (T.seq (T.seq (T.region ?_)))
  refine TO.quiet (q_move rfl) (TO.quiet (q_nilCheck rfl) (TO.quiet (q_fieldAddr Tryd.underlying59 rfl inf33 rfl rfl) (TO.quiet (q_load_box 3 Tryd.underlying33 rfl rfl rfl rfl) ?_)))
  refine TO.quiet (QT.toB (q_neq rfl rfl) (decide_eq_false (fun h => h rfl))) ?_
  refine TO.nil ?_
  refine T.cond0 rfl ?_
  refine T.skip (T.seq (T.region ?_))
  refine TO.loud rfl (l_alloc inf25 rfl (fun y4 => ?_))
  refine TO.nil (T.seq (T.region ?_))
  refine TO.quiet (q_move rfl) (TO.quiet (q_move rfl) (TO.quiet (q_load_boxAgg 3 Tryd.underlying25 rfl inf25 rfl rfl rfl) (TO.quiet (q_load_boxAgg 2 Tryd.underlying25 rfl inf25 rfl rfl rfl) ?_)))
  have hk21 := CallV.under (A := L) (B := [oI y4 25 [(.int .i64 0), (.int .i64 0), (.slice none 0 0), (.slice none 0 0)], oI y3 25 [(.int .i64 0), (.int .i64 0), (.slice none 0 0), (.slice none 0 0)], oI y2 25 (dC b k), oI y1 25 (dC a j), oI sb 65 (bC (.int .i64 0) c d m n)]) (O := ([oI y4 25 [(.int .i64 0), (.int .i64 0), (.slice none 0 0), (.slice none 0 0)], oI y3 25 [(.int .i64 0), (.int .i64 0), (.slice none 0 0), (.slice none 0 0)], oI y2 25 (dC b k), oI y1 25 (dC a j), oI sb 65 (bC (.int .i64 0) c d m n)] ++ L)) (CallV.of_fn (first := []) (args := [dV a j, dV b k]) (caps := []) hen (CallT.of_pure hop)) (by exact Sub.swap3 [] L [oI y4 25 [(.int .i64 0), (.int .i64 0), (.slice none 0 0), (.slice none 0 0)], oI y3 25 [(.int .i64 0), (.int .i64 0), (.slice none 0 0), (.slice none 0 0)], oI y2 25 (dC b k), oI y1 25 (dC a j), oI sb 65 (bC (.int .i64 0) c d m n)])
  refine TO.loud rfl (l_callG hk21 rfl rfl ?_)
  clear hk21
  rintro vr O' ⟨A1, rfl, N, rfl, k', rfl, rfl⟩
  refine TO.sub (O' := ([dI 54 4 3 M k', oI y4 25 [(.int .i64 0), (.int .i64 0), (.slice none 0 0), (.slice none 0 0)], oI y3 25 [(.int .i64 0), (.int .i64 0), (.slice none 0 0), (.slice none 0 0)], oI y2 25 (dC b k), oI y1 25 (dC a j), oI sb 65 (bC (.int .i64 0) c d m n)] ++ L)) (by exact Sub.swap3 [dI 54 4 3 M k'] [oI y4 25 [(.int .i64 0), (.int .i64 0), (.slice none 0 0), (.slice none 0 0)], oI y3 25 [(.int .i64 0), (.int .i64 0), (.slice none 0 0), (.slice none 0 0)], oI y2 25 (dC b k), oI y1 25 (dC a j), oI sb 65 (bC (.int .i64 0) c d m n)] L) ?_
  refine TO.quiet (q_move rfl) (TO.quiet (q_extract (vs := _) rfl rfl) (TO.quiet (q_extract (vs := _) rfl rfl) ?_))
  refine TO.loud rfl (l_store_box (v := (dV M k')) (vs := (dC M k')) 1 inf25 rfl rfl rfl rfl rfl rfl (by simp [putL]) ?_)
  refine TO.quiet (q_nilCheck rfl) (TO.quiet (q_fieldAddr Tryd.underlying59 rfl inf33 rfl rfl) ?_)
  refine TO.loud rfl (l_store_box (v := .int .i64 0) (vs := [(.int .i64 0)]) 5 inf33 rfl rfl rfl rfl rfl rfl (by simp [putL]) ?_)
  refine TO.nil (T.seq (T.region ?_))
  refine TO.quiet (q_load_boxAgg 1 Tryd.underlying25 rfl inf25 rfl rfl rfl) ?_
  refine TO.loud rfl (l_store_box (v := (dV M k')) (vs := (dC M k')) 2 inf25 rfl rfl rfl rfl rfl rfl (by simp [putL]) ?_)
  refine TO.nil (T.ret (Res.drop ?_))
  refine Res.cell1 (i := 2) Tryd.results28 Tryd.underlying25 rfl inf25 rfl rfl rfl ?_
  exact ⟨[dI 54 4 3 M k', oI sb 65 (bC (.int .i64 0) c d m n)] ++ L, (Sub.pickR [0, 4] [dI 54 4 3 M k', oI y4 25 (dC M k'), oI y3 25 (dC M k'), oI y2 25 (dC b k), oI y1 25 (dC a j), oI sb 65 (bC (.int .i64 0) c d m n)] L rfl rfl), k', rfl, rfl⟩
set_option maxHeartbeats 1000000 in
set_option maxRecDepth 20000 in
theorem not1Z (w : World) [Tab Tryd.prog w] {z a : DFA} {p : List Nat → Bool} (hz : Valid z) (ha : InL z a p) (b : DFA) (j k : DK) (hj : At w a j) {M : DFA} (hM : notD a = M) :
    PureT Tryd.prog 59 [dV a j, dV b k] w fun v N => ∃ k' : DK, v = .tuple #[dV M k', .int .i64 0] ∧ N = [dI 54 4 3 M k'] := by
  refine CallT.enter Tryd.func59 rfl Tryd.ntmps59 rfl ?_
  refine T.seq (T.region ?_)
  refine TO.loud rfl (l_box (v := (dV a j)) (cs := (dC a j)) rfl rfl (fun bx1 => ?_))
  refine TO.loud rfl (l_box (v := (dV b k)) (cs := (dC b k)) rfl rfl (fun bx2 => ?_))
  refine TO.loud rfl (l_alloc inf25 rfl (fun bx3 => ?_))
  refine TO.quiet (q_assign rfl) ?_
  refine TO.nil (T.seq (T.region ?_))
  refine TO.quiet (q_load_boxAgg 2 Tryd.underlying25 rfl inf25 rfl rfl rfl) ?_
  have hk7 := fun (w1 : World) (hI : Inv w [oI bx3 25 [(.int .i64 0), (.int .i64 0), (.slice none 0 0), (.slice none 0 0)], oI bx2 25 (dC b k), oI bx1 25 (dC a j)] w1) => (haveI := Inv.tab (P := Tryd.prog) hI; notZ0 w1 hz ha j (hI.atB hj) hM)
  refine TO.loud rfl (l_call ent60 (CallT.of_pure hk7) rfl ?_)
  clear hk7
  rintro vr O' ⟨N, rfl, k', rfl, rfl⟩
  refine TO.quiet (q_extract (vs := _) rfl rfl) (TO.quiet (q_extract (vs := _) rfl rfl) ?_)
  refine TO.loud rfl (l_store_box (v := (dV M k')) (vs := (dC M k')) 1 inf25 rfl rfl rfl rfl rfl rfl (by simp [putL]) ?_)
  refine TO.quiet (q_assign rfl) ?_
  refine TO.nil (T.ret (Res.drop ?_))
  refine Res.cell1b (.int .i64 0) (i := 1) Tryd.results59 Tryd.underlying25 rfl inf25 rfl rfl rfl rfl ?_
  exact ⟨[dI 54 4 3 M k'], (by exact Sub.k .z), k', rfl, rfl⟩
set_option maxHeartbeats 1000000 in
set_option maxRecDepth 20000 in
theorem min1Z (w : World) [Tab Tryd.prog w] (a b : DFA) (hv : Valid a) (j k : DK) (hj : At w a j) {M : DFA} (hM : minD a = M) :
    PureT Tryd.prog 44 [dV a j, dV b k] w fun v N => ∃ k' : DK, v = .tuple #[dV M k', .int .i64 0] ∧ N = [dI 54 4 3 M k'] := by
  refine CallT.enter Tryd.func44 rfl Tryd.ntmps44 rfl ?_
  refine T.seq (T.region ?_)
  refine TO.loud rfl (l_box (v := (dV a j)) (cs := (dC a j)) rfl rfl (fun bx1 => ?_))
  refine TO.loud rfl (l_box (v := (dV b k)) (cs := (dC b k)) rfl rfl (fun bx2 => ?_))
  refine TO.loud rfl (l_alloc inf25 rfl (fun bx3 => ?_))
  refine TO.quiet (q_assign rfl) ?_
  refine TO.nil (T.seq (T.region ?_))
  refine TO.quiet (q_load_boxAgg 2 Tryd.underlying25 rfl inf25 rfl rfl rfl) ?_
  have hk7 := fun (w1 : World) (hI : Inv w [oI bx3 25 [(.int .i64 0), (.int .i64 0), (.slice none 0 0), (.slice none 0 0)], oI bx2 25 (dC b k), oI bx1 25 (dC a j)] w1) => (haveI := Inv.tab (P := Tryd.prog) hI; minKE w1 a j (hI.atB hj) hv (Nat.lt_of_le_of_lt hv.n4 (by decide)) hM)
  refine TO.loud rfl (l_call ent17 (CallT.of_pure hk7) rfl ?_)
  clear hk7
  rintro vr O' ⟨N, rfl, k', rfl, rfl⟩
  refine TO.quiet (q_extract (vs := _) rfl rfl) (TO.quiet (q_extract (vs := _) rfl rfl) ?_)
  refine TO.loud rfl (l_store_box (v := (dV M k')) (vs := (dC M k')) 1 inf25 rfl rfl rfl rfl rfl rfl (by simp [putL]) ?_)
  refine TO.quiet (q_assign rfl) ?_
  refine TO.nil (T.ret (Res.drop ?_))
  refine Res.cell1b (.int .i64 0) (i := 1) Tryd.results44 Tryd.underlying25 rfl inf25 rfl rfl rfl rfl ?_
  exact ⟨[dI 54 4 3 M k'], (by exact Sub.k .z), k', rfl, rfl⟩
set_option maxHeartbeats 1000000 in
set_option maxRecDepth 20000 in
theorem notM (base : World) [Tab Tryd.prog base] (L : List Lx.Item) (sb : Nat) (c d : DFA) (m n : DK) {z a : DFA} {p : List Nat → Bool} (hz : Valid z) (ha : InL z a p) (j : DK) (hj : ∀ w1, Inv base L w1 → At w1 a j) {M : DFA} (hM : notD a = M) :
    CallT Tryd.prog base 39 [.pointer (some ⟨sb, 0, none⟩), dV a j] ([oI sb 65 (bC (.int .i64 0) c d m n)] ++ L) (fun v O' => ∃ k' : DK, v = dV M k' ∧ O' = [dI 54 4 3 M k', oI sb 65 (bC (.int .i64 0) c d m n)] ++ L) := by
  refine CallT.enter Tryd.func39 rfl Tryd.ntmps39 rfl ?_
  refine T.seq (T.region ?_)
  refine TO.loud rfl (l_box (v := (dV a j)) (cs := (dC a j)) rfl rfl (fun y1 => ?_))
  refine TO.loud rfl (l_alloc inf25 rfl (fun y2 => ?_))
  refine TO.nil (T.seq (T.region ?_))
  refine TO.quiet (q_move rfl) (TO.quiet (q_load_boxAgg 1 Tryd.underlying25 rfl inf25 rfl rfl rfl) (TO.quiet (q_load_boxAgg 1 Tryd.underlying25 rfl inf25 rfl rfl rfl) ?_))
  have hk8 := CallT.under (A := [oI sb 65 (bC (.int .i64 0) c d m n)] ++ L) (B := [oI y2 25 [(.int .i64 0), (.int .i64 0), (.slice none 0 0), (.slice none 0 0)], oI y1 25 (dC a j)]) (O := ([oI y2 25 [(.int .i64 0), (.int .i64 0), (.slice none 0 0), (.slice none 0 0)], oI y1 25 (dC a j), oI sb 65 (bC (.int .i64 0) c d m n)] ++ L)) (doB base L sb c d m n a a j j 59 ent59 (fun w1 hI => haveI := Inv.tab (P := Tryd.prog) hI; not1Z w1 hz ha a j j (hj w1 hI) hM)) (Sub.tr (Sub.swap3 [oI sb 65 (bC (.int .i64 0) c d m n)] L [oI y2 25 [(.int .i64 0), (.int .i64 0), (.slice none 0 0), (.slice none 0 0)], oI y1 25 (dC a j)]) (by exact Sub.pull [oI y2 25 [(.int .i64 0), (.int .i64 0), (.slice none 0 0), (.slice none 0 0)], oI y1 25 (dC a j)] _ (.k (.k .rf))))
  refine TO.loud rfl (l_call ent28 hk8 rfl ?_)
  clear hk8
  rintro vr O' ⟨A1, rfl, k', rfl, rfl⟩
  refine TO.sub (O' := ([dI 54 4 3 M k', oI sb 65 (bC (.int .i64 0) c d m n), oI y2 25 [(.int .i64 0), (.int .i64 0), (.slice none 0 0), (.slice none 0 0)], oI y1 25 (dC a j)] ++ L)) (by exact Sub.swap3 [dI 54 4 3 M k', oI sb 65 (bC (.int .i64 0) c d m n)] [oI y2 25 [(.int .i64 0), (.int .i64 0), (.slice none 0 0), (.slice none 0 0)], oI y1 25 (dC a j)] L) ?_
  refine TO.loud rfl (l_store_box (v := (dV M k')) (vs := (dC M k')) 2 inf25 rfl rfl rfl rfl rfl rfl (by simp [putL]) ?_)
  refine TO.nil (T.ret (Res.drop ?_))
  refine Res.cell1 (i := 2) Tryd.results39 Tryd.underlying25 rfl inf25 rfl rfl rfl ?_
  exact ⟨[dI 54 4 3 M k', oI sb 65 (bC (.int .i64 0) c d m n)] ++ L, (Sub.pickR [0, 0] [dI 54 4 3 M k', oI sb 65 (bC (.int .i64 0) c d m n), oI y2 25 (dC M k'), oI y1 25 (dC a j)] L rfl rfl), k', rfl, rfl⟩
set_option maxHeartbeats 1000000 in
set_option maxRecDepth 20000 in
theorem satM (base : World) [Tab Tryd.prog base] (L : List Lx.Item) (sb : Nat) (c d : DFA) (m n : DK) {z a g : DFA} {p q : List Nat → Bool} (hz : Valid z) (ha : InL z a p) (hg : InL z g q) (j k : DK) (hj : At base a j) (hk : At base g k) {M : DFA} (hM : satD a g = M) :
    CallT Tryd.prog base 53 [.pointer (some ⟨sb, 0, none⟩), cV a g j k] ([oI sb 65 (bC (.int .i64 0) c d m n)] ++ L) (fun v O' => ∃ k' : DK, v = dV M k' ∧ O' = [dI 54 4 3 M k', oI sb 65 (bC (.int .i64 0) c d m n)] ++ L) := by
  refine CallT.enter Tryd.func53 rfl Tryd.ntmps53 rfl ?_
  have hN := (InL.not hz ha).2
  obtain ⟨mN, eN⟩ : ∃ m, notD a = m := ⟨_, rfl⟩
  rw [eN] at hN
  refine T.seq (T.region ?_)
  refine TO.loud rfl (l_box (v := (cV a g j k)) (cs := (cC a g j k)) rfl rfl (fun y1 => ?_))
  refine TO.loud rfl (l_alloc inf25 rfl (fun y2 => ?_))
  refine TO.nil (T.seq (T.region ?_))
  refine TO.quiet (q_move rfl) (TO.quiet (q_fieldAddr Tryd.underlying27 rfl inf25 rfl rfl) (TO.quiet (q_load_part 1 (vs := (dC a j)) Tryd.underlying25 rfl inf25 rfl rfl rfl rfl) ?_))
  have hk9 := CallT.under (A := [oI sb 65 (bC (.int .i64 0) c d m n)] ++ L) (B := [oI y2 25 [(.int .i64 0), (.int .i64 0), (.slice none 0 0), (.slice none 0 0)], oI y1 27 (cC a g j k)]) (O := ([oI y2 25 [(.int .i64 0), (.int .i64 0), (.slice none 0 0), (.slice none 0 0)], oI y1 27 (cC a g j k), oI sb 65 (bC (.int .i64 0) c d m n)] ++ L)) (notM base L sb c d m n hz ha j (fun w1 hI => haveI := Inv.tab (P := Tryd.prog) hI; hI.atB hj) eN) (Sub.tr (Sub.swap3 [oI sb 65 (bC (.int .i64 0) c d m n)] L [oI y2 25 [(.int .i64 0), (.int .i64 0), (.slice none 0 0), (.slice none 0 0)], oI y1 27 (cC a g j k)]) (by exact Sub.pull [oI y2 25 [(.int .i64 0), (.int .i64 0), (.slice none 0 0), (.slice none 0 0)], oI y1 27 (cC a g j k)] _ (.k (.k .rf))))
  refine TO.loud rfl (l_call ent39 hk9 rfl ?_)
  clear hk9
  rintro vr O' ⟨A1, rfl, kN, rfl, rfl⟩
  refine TO.sub (O' := ([dI 54 4 3 mN kN, oI sb 65 (bC (.int .i64 0) c d m n), oI y2 25 [(.int .i64 0), (.int .i64 0), (.slice none 0 0), (.slice none 0 0)], oI y1 27 (cC a g j k)] ++ L)) (by exact Sub.swap3 [dI 54 4 3 mN kN, oI sb 65 (bC (.int .i64 0) c d m n)] [oI y2 25 [(.int .i64 0), (.int .i64 0), (.slice none 0 0), (.slice none 0 0)], oI y1 27 (cC a g j k)] L) ?_
  refine TO.loud rfl (l_alloc inf25 rfl (fun y3 => ?_))
  refine TO.loud rfl (l_store_box (v := (dV mN kN)) (vs := (dC mN kN)) 0 inf25 rfl rfl rfl rfl rfl rfl (by simp [putL]) ?_)
  refine TO.nil (T.seq (T.region ?_))
  refine TO.quiet (q_move rfl) (TO.quiet (q_fieldAddr Tryd.underlying27 rfl inf25 rfl rfl) (TO.quiet (q_load_part 4 (vs := (dC g k)) Tryd.underlying25 rfl inf25 rfl rfl rfl rfl) (TO.quiet (q_load_boxAgg 0 Tryd.underlying25 rfl inf25 rfl rfl rfl) ?_)))
  have hk14 := CallT.under (A := [oI sb 65 (bC (.int .i64 0) c d m n), dI 54 4 3 mN kN] ++ L) (B := [oI y3 25 (dC mN kN), oI y2 25 [(.int .i64 0), (.int .i64 0), (.slice none 0 0), (.slice none 0 0)], oI y1 27 (cC a g j k)]) (O := ([oI y3 25 (dC mN kN), dI 54 4 3 mN kN, oI sb 65 (bC (.int .i64 0) c d m n), oI y2 25 [(.int .i64 0), (.int .i64 0), (.slice none 0 0), (.slice none 0 0)], oI y1 27 (cC a g j k)] ++ L)) (doB base ([dI 54 4 3 mN kN] ++ L) sb c d m n g mN k kN 32 ent32 (fun w1 hI => haveI := Inv.tab (P := Tryd.prog) hI; orZ w1 hz hg hN k kN (hI.atB hk) (hI.at (k := kN) (List.mem_of_getElem? (i := 0) rfl)) (show opD orB g mN = M by rw [← hM, ← eN]; rfl))) (Sub.tr (Sub.swap3 [oI sb 65 (bC (.int .i64 0) c d m n), dI 54 4 3 mN kN] L [oI y3 25 (dC mN kN), oI y2 25 [(.int .i64 0), (.int .i64 0), (.slice none 0 0), (.slice none 0 0)], oI y1 27 (cC a g j k)]) (by exact Sub.pull [oI y3 25 (dC mN kN), dI 54 4 3 mN kN] _ (.pull [oI y3 25 (dC mN kN)] _ (.k (.k (.k .rf))))))
  refine TO.loud rfl (l_call ent28 hk14 rfl ?_)
  clear hk14
  rintro vr O' ⟨A1, rfl, k', rfl, rfl⟩
  refine TO.sub (O' := ([dI 54 4 3 M k', oI sb 65 (bC (.int .i64 0) c d m n), dI 54 4 3 mN kN, oI y3 25 (dC mN kN), oI y2 25 [(.int .i64 0), (.int .i64 0), (.slice none 0 0), (.slice none 0 0)], oI y1 27 (cC a g j k)] ++ L)) (by exact Sub.swap3 [dI 54 4 3 M k', oI sb 65 (bC (.int .i64 0) c d m n), dI 54 4 3 mN kN] [oI y3 25 (dC mN kN), oI y2 25 [(.int .i64 0), (.int .i64 0), (.slice none 0 0), (.slice none 0 0)], oI y1 27 (cC a g j k)] L) ?_
  refine TO.loud rfl (l_store_box (v := (dV M k')) (vs := (dC M k')) 4 inf25 rfl rfl rfl rfl rfl rfl (by simp [putL]) ?_)
  refine TO.nil (T.ret (Res.drop ?_))
  refine Res.cell1 (i := 4) Tryd.results53 Tryd.underlying25 rfl inf25 rfl rfl rfl ?_
  exact ⟨[dI 54 4 3 M k', oI sb 65 (bC (.int .i64 0) c d m n)] ++ L, (Sub.pickR [0, 0] [dI 54 4 3 M k', oI sb 65 (bC (.int .i64 0) c d m n), dI 54 4 3 mN kN, oI y3 25 (dC mN kN), oI y2 25 (dC M k'), oI y1 27 (cC a g j k)] L rfl rfl), k', rfl, rfl⟩
set_option maxHeartbeats 1000000 in
set_option maxRecDepth 20000 in
theorem ansS (base : World) [Tab Tryd.prog base] (L : List Lx.Item) (sb : Nat) (a : DFA) (hv : Valid a) (j : DK) (hj : ∀ w1, Inv base L w1 → At w1 a j) :
    CallT Tryd.prog base 29 [.pointer (some ⟨sb, 0, none⟩), dV a j] ([oI sb 59 [(.int .i64 0)]] ++ L) (fun v O' => ∃ res wb wc, LeastA a res ∧ v = .tuple #[.slice wb (res.getD []).length wc, .bool (!res.isSome), .int .i64 0] ∧ O' = [rowI wb wc 5 1 (byts (res.getD [])), oI sb 59 [(.int .i64 0)]] ++ L) := by
  refine CallT.enter Tryd.func29 rfl Tryd.ntmps29 rfl ?_
  refine T.seq (T.region ?_)
  refine TO.loud rfl (l_box (v := (dV a j)) (cs := (dC a j)) rfl rfl (fun y1 => ?_))
  refine TO.quiet (q_assign rfl) (TO.quiet (q_assign rfl) (TO.quiet (q_assign rfl) ?_))
  refine TO.nil (T.seq (T.seq (T.region ?_)))
  refine TO.quiet (q_move rfl) (TO.quiet (q_nilCheck rfl) (TO.quiet (q_fieldAddr Tryd.underlying59 rfl inf33 rfl rfl) (TO.quiet (q_load_box 1 Tryd.underlying33 rfl rfl rfl rfl) ?_)))
  refine TO.quiet (QT.toB (q_neq rfl rfl) (decide_eq_false (fun h => h rfl))) ?_
  refine TO.nil ?_
  refine T.cond0 rfl ?_
  refine T.skip (T.seq (T.region ?_))
  refine TO.quiet (q_load_boxAgg 0 Tryd.underlying25 rfl inf25 rfl rfl rfl) ?_
  have hk19 := fun (w1 : World) (hI : Inv base ([oI y1 25 (dC a j), oI sb 59 [(.int .i64 0)]] ++ L) w1) => (haveI := Inv.tab (P := Tryd.prog) hI; shoK w1 a j (hj w1 (hI.subp (Sub.appL [oI y1 25 (dC a j), oI sb 59 [(.int .i64 0)]] Sub.rf))) hv)
  refine TO.loud rfl (l_call ent51 (CallT.of_pure hk19) rfl ?_)
  clear hk19
  rintro vr O' ⟨N, rfl, res, wb, wc, hL, rfl, rfl⟩
  refine TO.quiet (q_move rfl) (TO.quiet (q_extract (vs := _) rfl rfl) (TO.quiet (q_extract (vs := _) rfl rfl) (TO.quiet (q_extract (vs := _) rfl rfl) ?_)))
  refine TO.quiet (q_assign rfl) (TO.quiet (q_assign rfl) (TO.quiet (q_assign rfl) ?_))
  refine TO.nil (T.seq (T.region ?_))
  refine TO.quiet (q_move rfl) (TO.quiet (q_move rfl) (TO.quiet (QT.toB (q_eql rfl rfl) (decide_eq_true rfl)) (TO.quiet (q_move rfl) ?_)))
  refine TO.guarded rfl rfl rfl (LT.of_quiet rfl rfl (q_move rfl) ?_)
  refine TO.guarded rfl rfl rfl (LT.of_quiet rfl rfl (q_not rfl) ?_)
  refine TO.quiet (q_pick1 rfl rfl) (TO.quiet (q_move rfl) (TO.quiet (q_assign rfl) (TO.quiet (q_assign rfl) ?_)))
  refine TO.quiet (q_assign rfl) ?_
  refine TO.nil (T.ret (Res.drop ?_))
  refine Res.three (.slice wb ((res.getD []).length) wc) (.bool (!res.isSome)) (.int .i64 0) Tryd.results29 rfl rfl rfl ?_
  exact ⟨[rowI wb wc 5 1 (byts (res.getD [])), oI sb 59 [(.int .i64 0)]] ++ L, (Sub.pickR [0, 1] [rowI wb wc 5 1 (byts (res.getD [])), oI y1 25 (dC a j), oI sb 59 [(.int .i64 0)]] L rfl rfl), res, wb, wc, hL, rfl, rfl⟩
set_option maxHeartbeats 1000000 in
set_option maxRecDepth 20000 in
theorem ansB (base : World) [Tab Tryd.prog base] (L : List Lx.Item) (sb : Nat) (c d : DFA) (m n : DK) (a : DFA) (hv : Valid a) (j : DK) (hj : ∀ w1, Inv base L w1 → At w1 a j) :
    CallT Tryd.prog base 29 [.pointer (some ⟨sb, 0, none⟩), dV a j] ([oI sb 65 (bC (.int .i64 0) c d m n)] ++ L) (fun v O' => ∃ res wb wc, LeastA a res ∧ v = .tuple #[.slice wb (res.getD []).length wc, .bool (!res.isSome), .int .i64 0] ∧ O' = [rowI wb wc 5 1 (byts (res.getD [])), oI sb 65 (bC (.int .i64 0) c d m n)] ++ L) := by
  refine CallT.enter Tryd.func29 rfl Tryd.ntmps29 rfl ?_
  refine T.seq (T.region ?_)
  refine TO.loud rfl (l_box (v := (dV a j)) (cs := (dC a j)) rfl rfl (fun y1 => ?_))
  refine TO.quiet (q_assign rfl) (TO.quiet (q_assign rfl) (TO.quiet (q_assign rfl) ?_))
  refine TO.nil (T.seq (T.seq (T.region ?_)))
  refine TO.quiet (q_move rfl) (TO.quiet (q_nilCheck rfl) (TO.quiet (q_fieldAddr Tryd.underlying59 rfl inf33 rfl rfl) (TO.quiet (q_load_box 1 Tryd.underlying33 rfl rfl rfl rfl) ?_)))
  refine TO.quiet (QT.toB (q_neq rfl rfl) (decide_eq_false (fun h => h rfl))) ?_
  refine TO.nil ?_
  refine T.cond0 rfl ?_
  refine T.skip (T.seq (T.region ?_))
  refine TO.quiet (q_load_boxAgg 0 Tryd.underlying25 rfl inf25 rfl rfl rfl) ?_
  have hk19 := fun (w1 : World) (hI : Inv base ([oI y1 25 (dC a j), oI sb 65 (bC (.int .i64 0) c d m n)] ++ L) w1) => (haveI := Inv.tab (P := Tryd.prog) hI; shoK w1 a j (hj w1 (hI.subp (Sub.appL [oI y1 25 (dC a j), oI sb 65 (bC (.int .i64 0) c d m n)] Sub.rf))) hv)
  refine TO.loud rfl (l_call ent51 (CallT.of_pure hk19) rfl ?_)
  clear hk19
  rintro vr O' ⟨N, rfl, res, wb, wc, hL, rfl, rfl⟩
  refine TO.quiet (q_move rfl) (TO.quiet (q_extract (vs := _) rfl rfl) (TO.quiet (q_extract (vs := _) rfl rfl) (TO.quiet (q_extract (vs := _) rfl rfl) ?_)))
  refine TO.quiet (q_assign rfl) (TO.quiet (q_assign rfl) (TO.quiet (q_assign rfl) ?_))
  refine TO.nil (T.seq (T.region ?_))
  refine TO.quiet (q_move rfl) (TO.quiet (q_move rfl) (TO.quiet (QT.toB (q_eql rfl rfl) (decide_eq_true rfl)) (TO.quiet (q_move rfl) ?_)))
  refine TO.guarded rfl rfl rfl (LT.of_quiet rfl rfl (q_move rfl) ?_)
  refine TO.guarded rfl rfl rfl (LT.of_quiet rfl rfl (q_not rfl) ?_)
  refine TO.quiet (q_pick1 rfl rfl) (TO.quiet (q_move rfl) (TO.quiet (q_assign rfl) (TO.quiet (q_assign rfl) ?_)))
  refine TO.quiet (q_assign rfl) ?_
  refine TO.nil (T.ret (Res.drop ?_))
  refine Res.three (.slice wb ((res.getD []).length) wc) (.bool (!res.isSome)) (.int .i64 0) Tryd.results29 rfl rfl rfl ?_
  exact ⟨[rowI wb wc 5 1 (byts (res.getD [])), oI sb 65 (bC (.int .i64 0) c d m n)] ++ L, (Sub.pickR [0, 1] [rowI wb wc 5 1 (byts (res.getD [])), oI y1 25 (dC a j), oI sb 65 (bC (.int .i64 0) c d m n)] L rfl rfl), res, wb, wc, hL, rfl, rfl⟩
set_option maxHeartbeats 1000000 in
set_option maxRecDepth 20000 in
theorem built (base : World) [Tab Tryd.prog base] (L : List Lx.Item) (sb : Nat) (c d : DFA) (m n : DK) (a g : DFA) (j k : DK) :
    CallT Tryd.prog base 40 [.pointer (some ⟨sb, 0, none⟩), dV a j, dV g k] ([oI sb 65 (bC (.int .i64 0) c d m n)] ++ L) (fun v O' => v = .tuple #[cV a g j k, .int .i64 0] ∧ O' = [oI sb 65 (bC (.int .i64 0) c d m n)] ++ L) := by
  refine CallT.enter Tryd.func40 rfl Tryd.ntmps40 rfl ?_
  refine T.seq (T.region ?_)
  refine TO.loud rfl (l_box (v := (dV a j)) (cs := (dC a j)) rfl rfl (fun y1 => ?_))
  refine TO.loud rfl (l_box (v := (dV g k)) (cs := (dC g k)) rfl rfl (fun y2 => ?_))
  refine TO.loud rfl (l_alloc inf27 rfl (fun y3 => ?_))
  refine TO.quiet (q_assign rfl) ?_
  refine TO.nil (T.seq (T.seq (T.region ?_)))
  refine TO.quiet (q_move rfl) (TO.quiet (q_nilCheck rfl) (TO.quiet (q_fieldAddr Tryd.underlying65 rfl inf59 rfl rfl) (TO.quiet (q_fieldAddr Tryd.underlying59 rfl inf33 rfl rfl) ?_)))
  refine TO.quiet (q_load_box 3 Tryd.underlying33 rfl rfl rfl rfl) (TO.quiet (QT.toB (q_neq rfl rfl) (decide_eq_false (fun h => h rfl))) ?_)
  refine TO.nil ?_
  refine T.cond0 rfl ?_
  refine T.skip (T.seq (T.region ?_))
  refine TO.quiet (q_load_boxAgg 2 Tryd.underlying25 rfl inf25 rfl rfl rfl) (TO.quiet (q_load_boxAgg 1 Tryd.underlying25 rfl inf25 rfl rfl rfl) (TO.quiet (q_build (cs := (cC a g j k)) plan27 inf27 (by kernel_rfl)) ?_))
  refine TO.loud rfl (l_store_box (v := (cV a g j k)) (vs := (cC a g j k)) 0 inf27 rfl rfl rfl rfl rfl rfl (by simp [putL]) ?_)
  refine TO.quiet (q_assign rfl) ?_
  refine TO.nil (T.ret (Res.drop ?_))
  refine Res.cell1b (.int .i64 0) (i := 0) Tryd.results40 Tryd.underlying27 rfl inf27 rfl rfl rfl rfl ?_
  exact ⟨[oI sb 65 (bC (.int .i64 0) c d m n)] ++ L, (Sub.pickR [3] [oI y3 27 (cC a g j k), oI y2 25 (dC g k), oI y1 25 (dC a j), oI sb 65 (bC (.int .i64 0) c d m n)] L rfl rfl), rfl, rfl⟩
set_option maxHeartbeats 1000000 in
set_option maxRecDepth 20000 in
theorem startC (w : World) [Tab Tryd.prog w] {z a1 g1 a2 g2 : DFA} {p1 q1 p2 q2 : List Nat → Bool} (hz : Valid z) (ha1 : InL z a1 p1) (hg1 : InL z g1 q1) (ha2 : InL z a2 p2) (hg2 : InL z g2 q2) (j1 k1 j2 k2 : DK) (hj1 : At w a1 j1) (hk1 : At w g1 k1) (hj2 : At w a2 j2) (hk2 : At w g2 k2) {S1 S2 : DFA} (e1 : satD a1 g1 = S1) (e2 : satD a2 g2 = S2) :
    PureT Tryd.prog 31 [cV a1 g1 j1 k1, cV a2 g2 j2 k2] w fun v N => ∃ (bp : Nat) (s1 s2 : DK), v = .pointer (some ⟨bp, 0, none⟩) ∧ N = [oI bp 65 (bC (.int .i64 0) S1 S2 s1 s2), dI 54 4 3 S1 s1, dI 54 4 3 S2 s2] := by
  refine CallT.enter Tryd.func31 rfl Tryd.ntmps31 rfl ?_
  refine T.seq (T.region ?_)
  refine TO.loud rfl (l_box (v := (cV a1 g1 j1 k1)) (cs := (cC a1 g1 j1 k1)) rfl rfl (fun y1 => ?_))
  refine TO.loud rfl (l_box (v := (cV a2 g2 j2 k2)) (cs := (cC a2 g2 j2 k2)) rfl rfl (fun y2 => ?_))
  refine TO.quiet (q_assign rfl) ?_
  refine TO.nil (T.seq (T.region ?_))
  refine TO.quiet (q_build plan65 inf65 rfl) ?_
  refine TO.loud rfl (l_box (v := (.agg #[(.int .i64 0), (.int .i64 0), (.int .i64 0), (.slice none 0 0), (.slice none 0 0), (.int .i64 0), (.int .i64 0), (.slice none 0 0), (.slice none 0 0)])) (cs := [(.int .i64 0), (.int .i64 0), (.int .i64 0), (.slice none 0 0), (.slice none 0 0), (.int .i64 0), (.int .i64 0), (.slice none 0 0), (.slice none 0 0)]) rfl rfl (fun y3 => ?_))
  refine TO.quiet (q_assign rfl) ?_
  refine TO.nil (T.seq (T.seq (T.region ?_)))
  refine TO.quiet (q_load_boxAgg 2 Tryd.underlying27 rfl inf27 rfl rfl rfl) (TO.quiet (q_load_boxAgg 1 Tryd.underlying27 rfl inf27 rfl rfl rfl) (TO.quiet (q_buildA (cs := [(.int .i64 a1.vars), (.int .i64 a1.start), (.slice j1.nb a1.next.length j1.nc), (.slice j1.fb a1.final.length j1.fc), (.int .i64 g1.vars), (.int .i64 g1.start), (.slice k1.nb g1.next.length k1.nc), (.slice k1.fb g1.final.length k1.fc), (.int .i64 a2.vars), (.int .i64 a2.start), (.slice j2.nb a2.next.length j2.nc), (.slice j2.fb a2.final.length j2.fc), (.int .i64 g2.vars), (.int .i64 g2.start), (.slice k2.nb g2.next.length k2.nc), (.slice k2.fb g2.final.length k2.fc)]) Tryd.underlying28 inf27 inf28 (by kernel_rfl)) (TO.quiet (q_move rfl) ?_)))
  refine TO.nil (T.block ?_)
  refine T.rounds 3 (T.round ?_)
  refine T.seq (T.region ?_)
  refine TO.quiet (QT.toB (q_lss rfl rfl) (b' := true) rfl) ?_
  refine TO.nil (T.seq ?_)
  refine T.cond1 rfl ?_
  refine T.skip (T.seq (T.block (T.seq (T.region ?_))))
  refine TO.quiet (q_indexA (i := 0) (vs := (cC a1 g1 j1 k1)) Tryd.underlying28 Tryd.underlying27 rfl inf27 rfl rfl (by decide) rfl) ?_
  refine TO.loud rfl (l_alloc inf27 rfl (fun y4 => ?_))
  refine TO.loud rfl (l_store_box (v := (cV a1 g1 j1 k1)) (vs := (cC a1 g1 j1 k1)) 0 inf27 rfl rfl rfl rfl rfl rfl (by simp [putL]) ?_)
  refine TO.nil (T.seq (T.region ?_))
  refine TO.quiet (q_move rfl) (TO.quiet (q_nilCheck rfl) (TO.quiet (q_fieldAddr Tryd.underlying65 rfl inf59 rfl rfl) (TO.quiet (q_fieldAddr Tryd.underlying59 rfl inf33 rfl rfl) ?_)))
  refine TO.quiet (q_load_box 1 Tryd.underlying33 rfl rfl rfl rfl) (TO.quiet (QT.toB (q_eql rfl rfl) (decide_eq_true rfl)) ?_)
  refine TO.nil ?_
  refine T.cond1 rfl ?_
  refine T.region ?_
  refine TO.quiet (q_move rfl) (TO.quiet (q_load_boxAgg 0 Tryd.underlying27 rfl inf27 rfl rfl rfl) ?_)
  have hk25 := fun (w1 : World) (hI : Inv w [oI y4 27 (cC a1 g1 j1 k1), oI y3 65 [(.int .i64 0), (.int .i64 0), (.int .i64 0), (.slice none 0 0), (.slice none 0 0), (.int .i64 0), (.int .i64 0), (.slice none 0 0), (.slice none 0 0)], oI y2 27 (cC a2 g2 j2 k2), oI y1 27 (cC a1 g1 j1 k1)] w1) => (haveI := Inv.tab (P := Tryd.prog) hI; (show PureT _ _ _ _ _ from by
      have h9 := conCheck w1 a1 g1 j1 k1 (hI.atB hj1) (hI.atB hk1) ha1.bds hg1.bds
      rw [cE_ok (checkD_zero.2 ha1.has.valid) (checkD_zero.2 hg1.has.valid) (by rw [ha1.has.vars, hg1.has.vars])] at h9
      exact h9))
  refine TO.loud rfl (l_call ent27 (CallT.of_pure hk25) rfl ?_)
  clear hk25
  rintro vr O' ⟨N, rfl, rfl, rfl⟩
  refine TO.quiet (q_nilCheck rfl) (TO.quiet (q_fieldAddr Tryd.underlying65 rfl inf59 rfl rfl) (TO.quiet (q_fieldAddr Tryd.underlying59 rfl inf33 rfl rfl) ?_))
  refine TO.loud rfl (l_store_box (v := .int .i64 0) (vs := [(.int .i64 0)]) 1 inf33 rfl rfl rfl rfl rfl rfl (by simp [putL]) ?_)
  refine TO.nil (T.region ?_)
  refine TO.quiet (QT.cast (q_add64 rfl rfl (by omega)) (v' := .int .i64 1) rfl) (TO.quiet (q_move rfl) ?_)
  refine TO.nil ?_
  refine T.round ?_
  refine T.seq (T.region ?_)
  refine TO.quiet (QT.toB (q_lss rfl rfl) (b' := true) rfl) ?_
  refine TO.nil (T.seq ?_)
  refine T.cond1 rfl ?_
  refine T.skip (T.seq (T.block (T.seq (T.region ?_))))
  refine TO.quiet (q_indexA (i := 1) (vs := (cC a2 g2 j2 k2)) Tryd.underlying28 Tryd.underlying27 rfl inf27 rfl rfl (by decide) rfl) ?_
  refine TO.loud rfl (l_alloc inf27 rfl (fun y5 => ?_))
  refine TO.loud rfl (l_store_box (v := (cV a2 g2 j2 k2)) (vs := (cC a2 g2 j2 k2)) 0 inf27 rfl rfl rfl rfl rfl rfl (by simp [putL]) ?_)
  refine TO.nil (T.seq (T.region ?_))
  refine TO.quiet (q_move rfl) (TO.quiet (q_nilCheck rfl) (TO.quiet (q_fieldAddr Tryd.underlying65 rfl inf59 rfl rfl) (TO.quiet (q_fieldAddr Tryd.underlying59 rfl inf33 rfl rfl) ?_)))
  refine TO.quiet (q_load_box 2 Tryd.underlying33 rfl rfl rfl rfl) (TO.quiet (QT.toB (q_eql rfl rfl) (decide_eq_true rfl)) ?_)
  refine TO.nil ?_
  refine T.cond1 rfl ?_
  refine T.region ?_
  refine TO.quiet (q_move rfl) (TO.quiet (q_load_boxAgg 0 Tryd.underlying27 rfl inf27 rfl rfl rfl) ?_)
  have hk25 := fun (w1 : World) (hI : Inv w [oI y5 27 (cC a2 g2 j2 k2), oI y4 27 (cC a1 g1 j1 k1), oI y3 65 [(.int .i64 0), (.int .i64 0), (.int .i64 0), (.slice none 0 0), (.slice none 0 0), (.int .i64 0), (.int .i64 0), (.slice none 0 0), (.slice none 0 0)], oI y2 27 (cC a2 g2 j2 k2), oI y1 27 (cC a1 g1 j1 k1)] w1) => (haveI := Inv.tab (P := Tryd.prog) hI; (show PureT _ _ _ _ _ from by
      have h9 := conCheck w1 a2 g2 j2 k2 (hI.atB hj2) (hI.atB hk2) ha2.bds hg2.bds
      rw [cE_ok (checkD_zero.2 ha2.has.valid) (checkD_zero.2 hg2.has.valid) (by rw [ha2.has.vars, hg2.has.vars])] at h9
      exact h9))
  refine TO.loud rfl (l_call ent27 (CallT.of_pure hk25) rfl ?_)
  clear hk25
  rintro vr O' ⟨N, rfl, rfl, rfl⟩
  refine TO.quiet (q_nilCheck rfl) (TO.quiet (q_fieldAddr Tryd.underlying65 rfl inf59 rfl rfl) (TO.quiet (q_fieldAddr Tryd.underlying59 rfl inf33 rfl rfl) ?_))
  refine TO.loud rfl (l_store_box (v := .int .i64 0) (vs := [(.int .i64 0)]) 2 inf33 rfl rfl rfl rfl rfl rfl (by simp [putL]) ?_)
  refine TO.nil (T.region ?_)
  refine TO.quiet (QT.cast (q_add64 rfl rfl (by omega)) (v' := .int .i64 2) rfl) (TO.quiet (q_move rfl) ?_)
  refine TO.nil ?_
  refine T.round ?_
  refine T.seq (T.region ?_)
  refine TO.quiet (QT.toB (q_lss rfl rfl) (b' := false) rfl) ?_
  refine TO.nil (T.seq ?_)
  refine T.cond0 rfl ?_
  refine T.exit ?_
  refine T.seq (T.seq (T.region ?_))
  refine TO.quiet (q_move rfl) (TO.quiet (q_nilCheck rfl) (TO.quiet (q_fieldAddr Tryd.underlying65 rfl inf59 rfl rfl) (TO.quiet (q_fieldAddr Tryd.underlying59 rfl inf33 rfl rfl) ?_)))
  refine TO.quiet (q_load_box 2 Tryd.underlying33 rfl rfl rfl rfl) (TO.quiet (QT.toB (q_eql rfl rfl) (decide_eq_true rfl)) (TO.quiet (q_move rfl) ?_))
  refine TO.guarded rfl rfl rfl (LT.of_quiet rfl rfl (q_fieldAddr Tryd.underlying27 rfl inf25 rfl rfl) ?_)
  refine TO.guarded rfl rfl rfl (LT.of_quiet rfl rfl (q_fieldAddr Tryd.underlying25 rfl inf3 rfl rfl) ?_)
  refine TO.guarded rfl rfl rfl (LT.of_quiet rfl rfl (q_load_box 4 Tryd.underlying3 rfl rfl rfl rfl) ?_)
  refine TO.guarded rfl rfl rfl (LT.of_quiet rfl rfl (q_fieldAddr Tryd.underlying27 rfl inf25 rfl rfl) ?_)
  refine TO.guarded rfl rfl rfl (LT.of_quiet rfl rfl (q_fieldAddr Tryd.underlying25 rfl inf3 rfl rfl) ?_)
  refine TO.guarded rfl rfl rfl (LT.of_quiet rfl rfl (q_load_box 3 Tryd.underlying3 rfl rfl rfl rfl) ?_)
  refine TO.guarded rfl rfl rfl (LT.of_quiet rfl rfl (QT.toB (q_neq rfl rfl) (decide_eq_false (fun h => h (by rw [ha1.has.vars, ha2.has.vars])))) ?_)
  refine TO.quiet (q_pick1 rfl rfl) ?_
  refine TO.nil ?_
  refine T.cond0 rfl ?_
  refine T.skip (T.seq (T.region ?_))
  refine TO.quiet (q_move rfl) (TO.quiet (q_nilCheck rfl) (TO.quiet (q_fieldAddr Tryd.underlying65 rfl inf59 rfl rfl) (TO.quiet (q_makeFunc) ?_)))
  refine TO.quiet (q_assign rfl) ?_
  refine TO.nil (T.seq (T.region ?_))
  refine TO.quiet (q_move rfl) (TO.quiet (q_move rfl) (TO.quiet (q_load_boxAgg 4 Tryd.underlying27 rfl inf27 rfl rfl rfl) ?_))
  have hk56 := CallV.under (A := [oI y3 65 (bC (.int .i64 0) noD noD k00 k00)]) (B := [oI y5 27 (cC a2 g2 j2 k2), oI y4 27 (cC a1 g1 j1 k1), oI y2 27 (cC a2 g2 j2 k2), oI y1 27 (cC a1 g1 j1 k1)]) (O := [oI y5 27 (cC a2 g2 j2 k2), oI y4 27 (cC a1 g1 j1 k1), oI y3 65 [(.int .i64 0), (.int .i64 0), (.int .i64 0), (.slice none 0 0), (.slice none 0 0), (.int .i64 0), (.int .i64 0), (.slice none 0 0), (.slice none 0 0)], oI y2 27 (cC a2 g2 j2 k2), oI y1 27 (cC a1 g1 j1 k1)]) (CallV.of_fn (first := [(.pointer (some ⟨y3, 0, none⟩))]) (args := [cV a1 g1 j1 k1]) (caps := []) ent53 (satM w [] y3 noD noD k00 k00 hz ha1 hg1 j1 k1 hj1 hk1 e1)) (by exact Sub.pull [oI y5 27 (cC a2 g2 j2 k2), oI y4 27 (cC a1 g1 j1 k1)] _ (.k (.k (.k (.k .z)))))
  refine TO.loud rfl (l_callG hk56 rfl rfl ?_)
  clear hk56
  rintro vr O' ⟨A1, rfl, s1, rfl, rfl⟩
  refine TO.quiet (q_nilCheck rfl) (TO.quiet (q_fieldAddr Tryd.underlying65 rfl inf25 rfl rfl) ?_)
  refine TO.loud rfl (l_store_box (v := (dV S1 s1)) (vs := (dC S1 s1)) 1 inf25 rfl rfl rfl rfl rfl rfl (by simp [putL]) ?_)
  refine TO.nil (T.seq (T.region ?_))
  refine TO.quiet (q_move rfl) (TO.quiet (q_move rfl) (TO.quiet (q_load_boxAgg 4 Tryd.underlying27 rfl inf27 rfl rfl rfl) ?_))
  have hk62 := CallV.under (A := [oI y3 65 (bC (.int .i64 0) S1 noD s1 k00)]) (B := [dI 54 4 3 S1 s1, oI y5 27 (cC a2 g2 j2 k2), oI y4 27 (cC a1 g1 j1 k1), oI y2 27 (cC a2 g2 j2 k2), oI y1 27 (cC a1 g1 j1 k1)]) (O := [dI 54 4 3 S1 s1, oI y3 65 (bC (.int .i64 0) S1 noD s1 k00), oI y5 27 (cC a2 g2 j2 k2), oI y4 27 (cC a1 g1 j1 k1), oI y2 27 (cC a2 g2 j2 k2), oI y1 27 (cC a1 g1 j1 k1)]) (CallV.of_fn (first := [(.pointer (some ⟨y3, 0, none⟩))]) (args := [cV a2 g2 j2 k2]) (caps := []) ent53 (satM w [] y3 S1 noD s1 k00 hz ha2 hg2 j2 k2 hj2 hk2 e2)) (by exact Sub.pull [dI 54 4 3 S1 s1] _ (.k (.k (.k (.k (.k .z))))))
  refine TO.loud rfl (l_callG hk62 rfl rfl ?_)
  clear hk62
  rintro vr O' ⟨A1, rfl, s2, rfl, rfl⟩
  refine TO.quiet (q_nilCheck rfl) (TO.quiet (q_fieldAddr Tryd.underlying65 rfl inf25 rfl rfl) ?_)
  refine TO.loud rfl (l_store_box (v := (dV S2 s2)) (vs := (dC S2 s2)) 1 inf25 rfl rfl rfl rfl rfl rfl (by simp [putL]) ?_)
  refine TO.nil (T.seq (T.region ?_))
  refine TO.quiet (q_move rfl) (TO.quiet (q_assign rfl) ?_)
  refine TO.nil (T.ret (Res.drop ?_))
  refine Res.one (.pointer (some ⟨y3, 0, none⟩)) Tryd.results31 rfl ?_
  exact ⟨[oI y3 65 (bC (.int .i64 0) S1 S2 s1 s2), dI 54 4 3 S1 s1, dI 54 4 3 S2 s2], (Sub.pick [1, 1, 0] rfl), _, s1, s2, rfl, rfl⟩
end Go.Proofs.YtnpehjpookcfkaaDoor
