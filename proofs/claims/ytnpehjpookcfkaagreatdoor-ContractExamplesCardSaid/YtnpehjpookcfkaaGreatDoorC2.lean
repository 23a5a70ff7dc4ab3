/- Contracts of functions of the program (P1, P2, P3, Bol8, P4, P5, Sho, Shw, C1, Con, BolA, BolC, BolD, Inz, Ct, C2): what each call answers and that it leaves memory as it was. Conditions: those each theorem names. -/
import Derived.Test.YtnpehjpookcfkaaGreatDoorCoreK
import Derived.Test.YtnpehjpookcfkaaGreatDoorBol7
import Derived.Test.YtnpehjpookcfkaaGreatDoorAll
set_option linter.unusedSectionVars false
set_option linter.unusedSimpArgs false
set_option linter.unusedVariables false
set_option linter.unnecessarySimpa false
set_option maxHeartbeats 8000000
set_option maxRecDepth 20000
namespace Go.Proofs.YtnpehjpookcfkaaGreatDoor
open Go.Lx Go.RowKit _root_.Go.Proofs.Tryz
theorem pairT : Pair2 Tryz.prog 114 { name := "s", type := 3, offset := 0, embedded := false, tag := "", pkgPath := "sentinel/boolean", byteOffset := 0 } { name := "t", type := 3, offset := 1, embedded := false, tag := "", pkgPath := "sentinel/boolean", byteOffset := 8 } := ⟨uT114, uT3, uT3, rfl, rfl, by decide, by decide, by kernel_rfl⟩
theorem beginBad (w : World) [Tab Tryz.prog w] (a b : DFA) (j k : DK) (ha : At w a j) (hb : At w b k) (haa : a.next.length < 9223372036854775807) (haar : ∀ r ∈ a.next, r.length < 9223372036854775807) (haaf : a.final.length < 9223372036854775807) (hbb : b.next.length < 9223372036854775807) (hbbr : ∀ r ∈ b.next, r.length < 9223372036854775807) (hbbf : b.final.length < 9223372036854775807) (he : wrongD a b ≠ 0) :
  PureT Tryz.prog 95 [dV a j, dV b k] w fun v N => v = .tuple #[.pointer none, vI (wrongD a b : Int)] ∧ N = [] := by
 refine CallT.enter func95 rfl ntmps95 rfl ?_
 refine T.s (T.rg (TO.l rfl (l_box (v := (dV a j)) (cs := (dC a j)) rfl rfl (fun bx1 => ?_))))
 refine TO.l rfl (l_box (v := (dV b k)) (cs := (dC b k)) rfl rfl (fun bx2 => ?_))
 refine TO.qa rfl (TO.qa rfl (TO.nl (T.s (T.s (T.rg (TO.q (q_la 1 uT25 rfl inf25 rfl rfl rfl) (TO.l rfl (l_call ent33 (CallT.op fun w1 hI => (haveI := tbz hI; subsetCheck w1 a j.nb j.fb j.nc j.fc (vals j.qs) (hI.dfa ha) haa haar haaf)) rfl ?_))))))))
 rintro vr O' ⟨N, rfl, rfl, rfl⟩
 refine TO.qa rfl (TO.nl (T.s (T.rg (TO.qm rfl (TO.q (q_neq rfl rfl) (TO.nl (T.condP rfl (fun hc => ?_) (fun hc => ?_))))))))
 ·have hlt12 : checkD a ≠ 0 := by omega
  refine T.s (T.rg (TO.qm rfl (TO.qa rfl (TO.qa rfl (TO.nl (T.ret (Res.drop ?_)))))))
  refine Res.two (.pointer none) (vI (checkD a : Int)) Tryz.results95 rfl rfl ?_
  exact ⟨[], Sub.z, by rw [wrong_first (by omega)], rfl⟩
 have hge12 : ¬ checkD a ≠ 0 := by omega
 refine T.skip (T.s (T.s (T.rg (TO.q (q_la 0 uT25 rfl inf25 rfl rfl rfl) (TO.l rfl (l_call ent33 (CallT.op fun w1 hI => (haveI := tbz hI; subsetCheck w1 b k.nb k.fb k.nc k.fc (vals k.qs) (hI.dfa hb) hbb hbbr hbbf)) rfl ?_))))))
 rintro vr O' ⟨N, rfl, rfl, rfl⟩
 refine TO.qa rfl (TO.nl (T.s (T.rg (TO.qm rfl (TO.q (q_neq rfl rfl) (TO.nl (T.condP rfl (fun hc => ?_) (fun hc => ?_))))))))
 ·have hlt17 : checkD b ≠ 0 := by omega
  refine T.s (T.rg (TO.qm rfl (TO.qa rfl (TO.qa rfl (TO.nl (T.ret (Res.drop ?_)))))))
  refine Res.two (.pointer none) (vI (checkD b : Int)) Tryz.results95 rfl rfl ?_
  exact ⟨[], Sub.z, by rw [wrong_second (by omega) (by omega)], rfl⟩
 have hge17 : ¬ checkD b ≠ 0 := by omega
 refine T.skip (T.s (T.s (T.rg (TO.q (q_fa uT25 rfl inf3 rfl rfl) (TO.q (q_lb 1 uT3 rfl rfl rfl rfl) (TO.q (q_fa uT25 rfl inf3 rfl rfl) (TO.q (q_lb 0 uT3 rfl rfl rfl rfl) (TO.q (q_neq rfl rfl) (TO.nl (T.condP (p := ¬ a.vars = b.vars) (congrArg Value.bool (decide_eq_decide.2 (by omega))) (fun hc => ?_) (fun hc => ?_)))))))))))
 ·refine T.s ?_
  refine T.rg (TO.qa rfl (TO.qa rfl (TO.nl (T.ret (Res.drop ?_)))))
  refine Res.two (.pointer none) (vI 7) Tryz.results95 rfl rfl ?_
  exact ⟨[], Sub.z, by rw [wrong_vars (by omega) (by omega) hc]; rfl, rfl⟩
 refine absurd (wrongD_zero.2 ⟨checkD_zero.1 (by omega), checkD_zero.1 (by omega), Classical.not_not.1 hc⟩) he
theorem beginOk (w : World) [Tab Tryz.prog w] (a b : DFA) (j k : DK) (ha : At w a j) (hb : At w b k) (va : Valid a) (vb : Valid b) (hv : a.vars = b.vars) :
  PureT Tryz.prog 95 [dV a j, dV b k] w fun v N => ∃ (bp qb m : Nat), v = .tuple #[.pointer (aD bp), vI 0] ∧ N = [oI bp 118 [(vI a.vars), (vI a.start), (.slice j.nb a.next.length j.nc), (.slice j.fb a.final.length j.fc), (vI b.vars), (vI b.start), (.slice k.nb b.next.length k.nc), (.slice k.fb b.final.length k.fc), (.slice (aD qb) ([a.start.toNat * b.next.length + b.start.toNat].length) 1), (.map (some m))], rowI (aD qb) 1 114 2 (prs b.next.length [a.start.toNat * b.next.length + b.start.toNat]), mapI pairV (fun n : Nat => Value.int .i64 (n : Int)) m (pmap b.next.length [a.start.toNat * b.next.length + b.start.toNat])] := by
 refine CallT.enter func95 rfl ntmps95 rfl ?_
 have wa : checkD a = 0 := checkD_zero.2 va
 have wb : checkD b = 0 := checkD_zero.2 vb
 have hs1 : a.start = ((a.start.toNat : Nat) : Int) := by have := va.s0; omega
 have hs2 : b.start = ((b.start.toNat : Nat) : Int) := by have := vb.s0; omega
 have hpd := pr_div (s := a.start.toNat) (start_lt vb.toVal)
 refine T.s (T.rg (TO.l rfl (l_box (v := (dV a j)) (cs := (dC a j)) rfl rfl (fun bx1 => ?_))))
 refine TO.l rfl (l_box (v := (dV b k)) (cs := (dC b k)) rfl rfl (fun bx2 => ?_))
 refine TO.qa rfl (TO.qa rfl (TO.nl (T.s (T.s (T.rg (TO.q (q_la 1 uT25 rfl inf25 rfl rfl rfl) (TO.l rfl (l_call ent33 (CallT.op fun w1 hI => (haveI := tbz hI; subsetCheck w1 a j.nb j.fb j.nc j.fc (vals j.qs) (hI.dfa ha) (by have := va.n4; omega) va.bound (by have := va.fin; have := va.n4; omega))) rfl ?_))))))))
 rintro vr O' ⟨N, rfl, rfl, rfl⟩
 rw [wa]
 refine TO.qa rfl (TO.nl (T.s (T.rg (TO.qm rfl (TO.q (q_neq rfl rfl) (TO.nl (T.cond0 rfl (T.skip (T.s (T.s (T.rg (TO.q (q_la 0 uT25 rfl inf25 rfl rfl rfl) (TO.l rfl (l_call ent33 (CallT.op fun w1 hI => (haveI := tbz hI; subsetCheck w1 b k.nb k.fb k.nc k.fc (vals k.qs) (hI.dfa hb) (by have := vb.n4; omega) vb.bound (by have := vb.fin; have := vb.n4; omega))) rfl ?_))))))))))))))
 rintro vr O' ⟨N, rfl, rfl, rfl⟩
 rw [wb]
 refine TO.qa rfl (TO.nl (T.s (T.rg (TO.qm rfl (TO.q (q_neq rfl rfl) (TO.nl (T.cond0 rfl (T.skip (T.s (T.s (T.rg (TO.q (q_fa uT25 rfl inf3 rfl rfl) (TO.q (q_lb 1 uT3 rfl rfl rfl rfl) (TO.q (q_fa uT25 rfl inf3 rfl rfl) (TO.q (q_lb 0 uT3 rfl rfl rfl rfl) (TO.q (q_neq rfl rfl) ?_))))))))))))))))
 refine TO.nl (T.cond0 (congrArg Value.bool (decide_eq_false (fun h => h hv))) (T.skip (T.s (T.rg (TO.q (q_fa uT25 rfl inf3 rfl rfl) (TO.q (q_lb 1 uT3 rfl rfl rfl rfl) (TO.q (q_fa uT25 rfl inf3 rfl rfl) (TO.q (q_lb 0 uT3 rfl rfl rfl rfl) (TO.q (q_build (cs := [(vI a.start), (vI b.start)]) plan114 inf114 (by kernel_rfl)) (TO.l rfl (l_alloc inf114 rfl (fun bx3 => ?_))))))))))))
 refine TO.l rfl (l_sb (v := (.agg #[(vI a.start), (vI b.start)])) (vs := [(vI a.start), (vI b.start)]) 0 inf114 rfl rfl rfl rfl rfl rfl (by simp [putL]) ?_)
 refine TO.nl ?_
 refine T.cut (fun ρ O => ∃ (bp qb m : Nat), O = [oI bp 118 [(vI a.vars), (vI a.start), (.slice j.nb a.next.length j.nc), (.slice j.fb a.final.length j.fc), (vI b.vars), (vI b.start), (.slice k.nb b.next.length k.nc), (.slice k.fb b.final.length k.fc), (.slice (aD qb) 1 1), (.map (some m))], rowI (aD qb) 1 114 2 [(vI a.start), (vI b.start)], mapI pairV (fun n : Nat => Value.int .i64 (n : Int)) m [((a.start, b.start), (0 : Nat))]] ∧ Heads [(0, (dV a j)), (1, (dV b k)), (2, (.pointer (aD bx1))), (3, (.pointer (aD bx2))), (4, (.pointer (aD bp))), (5, vI 0), (6, vI ((0 : Nat) : Int)), (7, vI ((0 : Nat) : Int)), (8, (.pointer (aD bx3)))] ρ) ?_ ?_
 ·refine T.tree [oI bx3 114 [(vI a.start), (vI b.start)], oI bx2 25 (dC b k), oI bx1 25 (dC a j)] 12 mixed rfl (by exact Sub.rf) (fun _ _ _ h => h) ?_
  refine RO.quietT 0 rfl (by kernel_rfl) (q_la 2 uT25 rfl inf25 rfl rfl rfl) ?_
  refine RO.quietT 1 rfl (by kernel_rfl) (q_la 1 uT25 rfl inf25 rfl rfl rfl) ?_
  refine RO.quietT 2 rfl (by kernel_rfl) (q_la 0 uT114 rfl inf114 rfl rfl rfl) ?_
  refine RO.quietT 5 rfl (by kernel_rfl) (q_la 0 uT114 rfl inf114 rfl rfl rfl) ?_
  refine RO.fork [3, 4] (by kernel_rfl) rfl ⟨⟨_, rfl, rfl, l_buildSlice (m := 1) (parts := [(0, _)]) (cs := [(vI a.start), (vI b.start)]) uT115 inf114 (by decide) (by kernel_rfl) rfl (fun qb => ⟨by exact Sub.d (.k (.k (.k .z))), ?_⟩)⟩, ⟨_, rfl, rfl, l_makeMap pairV (fun n : Nat => Value.int .i64 (n : Int)) (fun m => ⟨by exact Sub.d (.k (.k (.k .z))), ?_⟩)⟩, trivial⟩
  ·refine RO.fork [4] (by kernel_rfl) rfl ⟨⟨_, rfl, rfl, l_makeMap pairV (fun n : Nat => Value.int .i64 (n : Int)) (fun m => ⟨by exact Sub.d (.d (.k (.k (.k .z)))), ?_⟩)⟩, trivial⟩
   refine RO.fork [6] (by kernel_rfl) rfl ⟨⟨_, rfl, rfl, l_mapInsert (a := (a.start, b.start)) (v := (0 : Nat)) 0 uT116 (KeyOk.pair pairT) rfl rfl rfl rfl (by simp) ⟨by exact Sub.d (.d (.k (.k (.k .z)))), ?_⟩⟩, trivial⟩
   refine RO.quietT 7 rfl (by kernel_rfl) (q_move rfl) ?_
   refine RO.quietT 8 rfl (by kernel_rfl) (q_build (cs := [(vI a.vars), (vI a.start), (.slice j.nb a.next.length j.nc), (.slice j.fb a.final.length j.fc), (vI b.vars), (vI b.start), (.slice k.nb b.next.length k.nc), (.slice k.fb b.final.length k.fc), (.slice (aD qb) 1 1), (.map (some m))]) plan118 inf118 (by kernel_rfl)) ?_
   refine RO.fork [9] (by kernel_rfl) rfl ⟨⟨_, rfl, rfl, l_box (v := (.agg #[(vI a.vars), (vI a.start), (.slice j.nb a.next.length j.nc), (.slice j.fb a.final.length j.fc), (vI b.vars), (vI b.start), (.slice k.nb b.next.length k.nc), (.slice k.fb b.final.length k.fc), (.slice (aD qb) 1 1), (.map (some m))])) (cs := [(vI a.vars), (vI a.start), (.slice j.nb a.next.length j.nc), (.slice j.fb a.final.length j.fc), (vI b.vars), (vI b.start), (.slice k.nb b.next.length k.nc), (.slice k.fb b.final.length k.fc), (.slice (aD qb) 1 1), (.map (some m))]) rfl rfl (fun bp => ⟨by exact Sub.d (.d (.d (.k (.k (.k .z))))), ?_⟩)⟩, trivial⟩
   refine RO.quietT 10 rfl (by kernel_rfl) (q_assign rfl) ?_
   refine RO.quietT 11 rfl (by kernel_rfl) (q_assign rfl) ?_
   exact RO.fin (by kernel_rfl) ⟨bp, qb, m, rfl, (.of rfl)⟩ (by exact Sub.k (.pull [mapI pairV (fun n : Nat => Value.int .i64 (n : Int)) m [((a.start, b.start), (0 : Nat))]] _ (.k .z)))
  refine RO.fork [3, 6] (by kernel_rfl) rfl ⟨⟨_, rfl, rfl, l_buildSlice (m := 1) (parts := [(0, _)]) (cs := [(vI a.start), (vI b.start)]) uT115 inf114 (by decide) (by kernel_rfl) rfl (fun qb => ⟨by exact Sub.d (.d (.k (.k (.k .z)))), ?_⟩)⟩, ⟨_, rfl, rfl, l_mapInsert (a := (a.start, b.start)) (v := (0 : Nat)) 0 uT116 (KeyOk.pair pairT) rfl rfl rfl rfl (by simp) ⟨by exact Sub.d (.k (.k (.k .z))), ?_⟩⟩, trivial⟩
  ·refine RO.fork [6] (by kernel_rfl) rfl ⟨⟨_, rfl, rfl, l_mapInsert (a := (a.start, b.start)) (v := (0 : Nat)) 1 uT116 (KeyOk.pair pairT) rfl rfl rfl rfl (by simp) ⟨by exact Sub.d (.d (.k (.k (.k .z)))), ?_⟩⟩, trivial⟩
   refine RO.quietT 7 rfl (by kernel_rfl) (q_move rfl) ?_
   refine RO.quietT 8 rfl (by kernel_rfl) (q_build (cs := [(vI a.vars), (vI a.start), (.slice j.nb a.next.length j.nc), (.slice j.fb a.final.length j.fc), (vI b.vars), (vI b.start), (.slice k.nb b.next.length k.nc), (.slice k.fb b.final.length k.fc), (.slice (aD qb) 1 1), (.map (some m))]) plan118 inf118 (by kernel_rfl)) ?_
   refine RO.fork [9] (by kernel_rfl) rfl ⟨⟨_, rfl, rfl, l_box (v := (.agg #[(vI a.vars), (vI a.start), (.slice j.nb a.next.length j.nc), (.slice j.fb a.final.length j.fc), (vI b.vars), (vI b.start), (.slice k.nb b.next.length k.nc), (.slice k.fb b.final.length k.fc), (.slice (aD qb) 1 1), (.map (some m))])) (cs := [(vI a.vars), (vI a.start), (.slice j.nb a.next.length j.nc), (.slice j.fb a.final.length j.fc), (vI b.vars), (vI b.start), (.slice k.nb b.next.length k.nc), (.slice k.fb b.final.length k.fc), (.slice (aD qb) 1 1), (.map (some m))]) rfl rfl (fun bp => ⟨by exact Sub.d (.d (.d (.k (.k (.k .z))))), ?_⟩)⟩, trivial⟩
   refine RO.quietT 10 rfl (by kernel_rfl) (q_assign rfl) ?_
   refine RO.quietT 11 rfl (by kernel_rfl) (q_assign rfl) ?_
   exact RO.fin (by kernel_rfl) ⟨bp, qb, m, rfl, (.of rfl)⟩ (by exact Sub.k (.k (.k .z)))
  refine RO.quietT 7 rfl (by kernel_rfl) (q_move rfl) ?_
  refine RO.fork [3] (by kernel_rfl) rfl ⟨⟨_, rfl, rfl, l_buildSlice (m := 1) (parts := [(0, _)]) (cs := [(vI a.start), (vI b.start)]) uT115 inf114 (by decide) (by kernel_rfl) rfl (fun qb => ⟨by exact Sub.d (.d (.k (.k (.k .z)))), ?_⟩)⟩, trivial⟩
  refine RO.quietT 8 rfl (by kernel_rfl) (q_build (cs := [(vI a.vars), (vI a.start), (.slice j.nb a.next.length j.nc), (.slice j.fb a.final.length j.fc), (vI b.vars), (vI b.start), (.slice k.nb b.next.length k.nc), (.slice k.fb b.final.length k.fc), (.slice (aD qb) 1 1), (.map (some m))]) plan118 inf118 (by kernel_rfl)) ?_
  refine RO.fork [9] (by kernel_rfl) rfl ⟨⟨_, rfl, rfl, l_box (v := (.agg #[(vI a.vars), (vI a.start), (.slice j.nb a.next.length j.nc), (.slice j.fb a.final.length j.fc), (vI b.vars), (vI b.start), (.slice k.nb b.next.length k.nc), (.slice k.fb b.final.length k.fc), (.slice (aD qb) 1 1), (.map (some m))])) (cs := [(vI a.vars), (vI a.start), (.slice j.nb a.next.length j.nc), (.slice j.fb a.final.length j.fc), (vI b.vars), (vI b.start), (.slice k.nb b.next.length k.nc), (.slice k.fb b.final.length k.fc), (.slice (aD qb) 1 1), (.map (some m))]) rfl rfl (fun bp => ⟨by exact Sub.d (.d (.d (.k (.k (.k .z))))), ?_⟩)⟩, trivial⟩
  refine RO.quietT 10 rfl (by kernel_rfl) (q_assign rfl) ?_
  refine RO.quietT 11 rfl (by kernel_rfl) (q_assign rfl) ?_
  exact RO.fin (by kernel_rfl) ⟨bp, qb, m, rfl, (.of rfl)⟩ (by exact Sub.k (.k (.k .z)))
 rintro ρ O ⟨bp, qb, m, rfl, hH⟩
 obtain ⟨ρ0, rfl⟩ := hH.elim
 clear hH
 refine T.ret (Res.drop ?_)
 refine Res.two (.pointer (aD bp)) (vI 0) Tryz.results95 rfl rfl ?_
 have e1 : prs b.next.length [a.start.toNat * b.next.length + b.start.toNat] = [vI a.start, vI b.start] := by
  simp only [prs, List.flatMap_cons, List.flatMap_nil, List.append_nil, unC, hpd.1, hpd.2, ← hs1, ← hs2]
 have e2 : pmap b.next.length [a.start.toNat * b.next.length + b.start.toNat] = [((a.start, b.start), 0)] := by
  show [(un _ _, 0)] = _
  simp only [un, hpd.1, hpd.2, ← hs1, ← hs2]
 exact ⟨[oI bp 118 [(vI a.vars), (vI a.start), (.slice j.nb a.next.length j.nc), (.slice j.fb a.final.length j.fc), (vI b.vars), (vI b.start), (.slice k.nb b.next.length k.nc), (.slice k.fb b.final.length k.fc), (.slice (aD qb) 1 1), (.map (some m))], rowI (aD qb) 1 114 2 [(vI a.start), (vI b.start)], mapI pairV (fun n : Nat => Value.int .i64 (n : Int)) m [((a.start, b.start), (0 : Nat))]], (by exact Sub.rf), bp, qb, m, rfl, by rw [e1, e2]; rfl⟩
theorem pairsF (w : World) [Tab Tryz.prog w] (bp : Nat) : PureT Tryz.prog 96 [.pointer (aD bp)] w fun v N => ∃ b, v = .func (.func 109) #[] #[.pointer (aD b)] ∧ N = [oI b 107 [(.pointer (aD bp))]] := by
 refine CallT.enter func96 rfl ntmps96 rfl ?_
 refine T.s (T.rg (TO.l rfl (l_box (v := (.pointer (aD bp))) (cs := [(.pointer (aD bp))]) rfl rfl (fun bx1 => ?_))))
 refine TO.qa rfl (TO.nl (T.s (T.rg (TO.q (q_makeFunc) (TO.qa rfl (TO.nl (T.ret ?_)))))))
 refine Res.one (.func (.func 109) #[] #[(.pointer (aD bx1))]) Tryz.results96 rfl ?_
 exact ⟨bx1, rfl, rfl⟩
theorem pvHit (base : World) [Tab Tryz.prog base] (a b : DFA) (j k : DK) (bp m : Nat) (ks : List Nat) (c : Nat) (qb : Option Addr) (qc : Nat) (hk : c ∈ ks) (hl : ks.length ≤ 17000000) :
  CallT Tryz.prog base 110 [.pointer (aD bp), (.agg #[vI ((c / b.next.length : Nat) : Int), vI ((c % b.next.length : Nat) : Int)])] [oI bp 118 [(vI a.vars), (vI a.start), (.slice j.nb a.next.length j.nc), (.slice j.fb a.final.length j.fc), (vI b.vars), (vI b.start), (.slice k.nb b.next.length k.nc), (.slice k.fb b.final.length k.fc), (.slice qb ks.length qc), (.map (some m))], rowI qb qc 114 2 (prs b.next.length ks), mapI pairV (fun n : Nat => Value.int .i64 (n : Int)) m (pmap b.next.length ks)] (fun v O' => v = vI ((ix c (add ks c) : Nat) : Int) ∧ ∃ qb' qc', O' = [oI bp 118 [(vI a.vars), (vI a.start), (.slice j.nb a.next.length j.nc), (.slice j.fb a.final.length j.fc), (vI b.vars), (vI b.start), (.slice k.nb b.next.length k.nc), (.slice k.fb b.final.length k.fc), (.slice qb' ((add ks c).length) qc'), (.map (some m))], rowI qb' qc' 114 2 (prs b.next.length (add ks c)), mapI pairV (fun n : Nat => Value.int .i64 (n : Int)) m (pmap b.next.length (add ks c))]) := by
 refine CallT.enter func110 rfl ntmps110 rfl ?_
 refine T.s (T.rg (TO.l rfl (l_box (v := (.agg #[vI ((c / b.next.length : Nat) : Int), vI ((c % b.next.length : Nat) : Int)])) (cs := [vI ((c / b.next.length : Nat) : Int), vI ((c % b.next.length : Nat) : Int)]) rfl rfl (fun bx1 => ?_))))
 refine TO.qa rfl (TO.nl (T.s ?_))
 refine T.draws [oI bx1 114 [vI ((c / b.next.length : Nat) : Int), vI ((c % b.next.length : Nat) : Int)], oI bp 118 [(vI a.vars), (vI a.start), (.slice j.nb a.next.length j.nc), (.slice j.fb a.final.length j.fc), (vI b.vars), (vI b.start), (.slice k.nb b.next.length k.nc), (.slice k.fb b.final.length k.fc), (.slice qb ks.length qc), (.map (some m))], rowI qb qc 114 2 (prs b.next.length ks), mapI pairV (fun n : Nat => Value.int .i64 (n : Int)) m (pmap b.next.length ks)] [(0, 0), (1, 0), (2, 0), (3, 0), (4, 0), (5, 0), (6, 0), (7, 0), (8, 0), (9, 0), (10, 0)] mixed (by kernel_rfl) (by exact Sub.rf) (fun _ _ _ h => h) ?_
 refine DO.q rfl (q_move rfl) (DO.q rfl (q_nilCheck rfl) (DO.q rfl (q_fa uT118 rfl inf116 rfl rfl) (DO.q rfl (q_lb 1 uT116 rfl rfl rfl rfl) (DO.q rfl (q_la 0 uT114 rfl inf114 rfl rfl rfl) (DO.q rfl (QT.cast (q_lookupOk (a := un b.next.length c) uT116 inf3 (KeyOk.pair pairT) rfl rfl (mG 3 rfl)) (v' := (.tuple #[vI ((ix c ks : Nat) : Int), .bool true])) (by rw [look_zip]; simp only [un_mem, hk, if_true, if_false, un_ix, Nat.zero_add]; rfl)) (DO.q rfl (q_move rfl) (DO.q rfl (q_extract (vs := _) rfl rfl) (DO.q rfl (q_extract (vs := _) rfl rfl) (DO.q rfl (q_assign rfl) (DO.q rfl (q_assign rfl) ?_))))))))))
 refine DO.done ?_
 refine T.s (T.s (T.rg (TO.qm rfl (TO.q (q_not rfl) (TO.nl (T.cond0 rfl (T.skip (T.s (T.rg (TO.qm rfl (TO.qa rfl (TO.nl (T.ret (Res.drop ?_))))))))))))))
 refine Res.one (vI ((ix c ks : Nat) : Int)) Tryz.results110 rfl ?_
 have ha : add ks c = ks := if_pos hk
 rw [ha]
 exact ⟨[oI bp 118 [(vI a.vars), (vI a.start), (.slice j.nb a.next.length j.nc), (.slice j.fb a.final.length j.fc), (vI b.vars), (vI b.start), (.slice k.nb b.next.length k.nc), (.slice k.fb b.final.length k.fc), (.slice qb ks.length qc), (.map (some m))], rowI qb qc 114 2 (prs b.next.length ks), mapI pairV (fun n : Nat => Value.int .i64 (n : Int)) m (pmap b.next.length ks)], (by exact Sub.d (.k (.k (.k .z)))), rfl, qb, qc, rfl⟩
theorem pvNew (base : World) [Tab Tryz.prog base] (a b : DFA) (j k : DK) (bp m : Nat) (ks : List Nat) (c : Nat) (qb : Option Addr) (qc : Nat) (hk : c ∉ ks) (hl : ks.length ≤ 17000000) :
  CallT Tryz.prog base 110 [.pointer (aD bp), (.agg #[vI ((c / b.next.length : Nat) : Int), vI ((c % b.next.length : Nat) : Int)])] [oI bp 118 [(vI a.vars), (vI a.start), (.slice j.nb a.next.length j.nc), (.slice j.fb a.final.length j.fc), (vI b.vars), (vI b.start), (.slice k.nb b.next.length k.nc), (.slice k.fb b.final.length k.fc), (.slice qb ks.length qc), (.map (some m))], rowI qb qc 114 2 (prs b.next.length ks), mapI pairV (fun n : Nat => Value.int .i64 (n : Int)) m (pmap b.next.length ks)] (fun v O' => v = vI ((ix c (add ks c) : Nat) : Int) ∧ ∃ qb' qc', O' = [oI bp 118 [(vI a.vars), (vI a.start), (.slice j.nb a.next.length j.nc), (.slice j.fb a.final.length j.fc), (vI b.vars), (vI b.start), (.slice k.nb b.next.length k.nc), (.slice k.fb b.final.length k.fc), (.slice qb' ((add ks c).length) qc'), (.map (some m))], rowI qb' qc' 114 2 (prs b.next.length (add ks c)), mapI pairV (fun n : Nat => Value.int .i64 (n : Int)) m (pmap b.next.length (add ks c))]) := by
 refine CallT.enter func110 rfl ntmps110 rfl ?_
 refine T.s (T.rg (TO.l rfl (l_box (v := (.agg #[vI ((c / b.next.length : Nat) : Int), vI ((c % b.next.length : Nat) : Int)])) (cs := [vI ((c / b.next.length : Nat) : Int), vI ((c % b.next.length : Nat) : Int)]) rfl rfl (fun bx1 => ?_))))
 refine TO.qa rfl (TO.nl (T.s ?_))
 refine T.draws [oI bx1 114 [vI ((c / b.next.length : Nat) : Int), vI ((c % b.next.length : Nat) : Int)], oI bp 118 [(vI a.vars), (vI a.start), (.slice j.nb a.next.length j.nc), (.slice j.fb a.final.length j.fc), (vI b.vars), (vI b.start), (.slice k.nb b.next.length k.nc), (.slice k.fb b.final.length k.fc), (.slice qb ks.length qc), (.map (some m))], rowI qb qc 114 2 (prs b.next.length ks), mapI pairV (fun n : Nat => Value.int .i64 (n : Int)) m (pmap b.next.length ks)] [(0, 0), (1, 0), (2, 0), (3, 0), (4, 0), (5, 0), (6, 0), (7, 0), (8, 0), (9, 0), (10, 0)] mixed (by kernel_rfl) (by exact Sub.rf) (fun _ _ _ h => h) ?_
 refine DO.q rfl (q_move rfl) (DO.q rfl (q_nilCheck rfl) (DO.q rfl (q_fa uT118 rfl inf116 rfl rfl) (DO.q rfl (q_lb 1 uT116 rfl rfl rfl rfl) (DO.q rfl (q_la 0 uT114 rfl inf114 rfl rfl rfl) (DO.q rfl (QT.cast (q_lookupOk (a := un b.next.length c) uT116 inf3 (KeyOk.pair pairT) rfl rfl (mG 3 rfl)) (v' := (.tuple #[vI 0, .bool false])) (by rw [look_zip]; simp only [un_mem, hk, if_true, if_false, un_ix, Nat.zero_add]; rfl)) (DO.q rfl (q_move rfl) (DO.q rfl (q_extract (vs := _) rfl rfl) (DO.q rfl (q_extract (vs := _) rfl rfl) (DO.q rfl (q_assign rfl) (DO.q rfl (q_assign rfl) ?_))))))))))
 refine DO.done ?_
 refine T.s (T.s (T.rg (TO.qm rfl (TO.q (q_not rfl) (TO.nl ?_)))))
 refine T.cond1 rfl ?_
 refine T.s (T.rg (TO.qm rfl (TO.q (q_nilCheck rfl) (TO.q (q_fa uT118 rfl inf115 rfl rfl) (TO.q (q_lb 1 uT115 rfl rfl rfl rfl) (TO.q (q_len uT115 rfl) (TO.qa rfl (TO.nl (T.s ?_)))))))))
 refine T.draws [oI bx1 114 [vI ((c / b.next.length : Nat) : Int), vI ((c % b.next.length : Nat) : Int)], oI bp 118 [(vI a.vars), (vI a.start), (.slice j.nb a.next.length j.nc), (.slice j.fb a.final.length j.fc), (vI b.vars), (vI b.start), (.slice k.nb b.next.length k.nc), (.slice k.fb b.final.length k.fc), (.slice qb ks.length qc), (.map (some m))], rowI qb qc 114 2 (prs b.next.length ks), mapI pairV (fun n : Nat => Value.int .i64 (n : Int)) m (pmap b.next.length ks)] [(0, 0), (1, 0), (2, 0), (3, 0), (4, 0), (5, 0), (6, 2)] mixed (by kernel_rfl) (by exact Sub.rf) (fun _ _ _ h => h) ?_
 refine DO.q rfl (q_move rfl) (DO.q rfl (q_nilCheck rfl) (DO.q rfl (q_fa uT118 rfl inf116 rfl rfl) (DO.q rfl (q_lb 1 uT116 rfl rfl rfl rfl) (DO.q rfl (q_la 0 uT114 rfl inf114 rfl rfl rfl) (DO.q rfl (q_move rfl) ?_)))))
 refine DO.last rfl rfl (l_mapPut (a := un b.next.length c) (v := ks.length) 3 uT116 (KeyOk.pair pairT) rfl rfl rfl rfl (by rw [pmap_fst, un_mem]; exact hk) ?_)
 refine DO.done ?_
 refine T.draws [oI bx1 114 [vI ((c / b.next.length : Nat) : Int), vI ((c % b.next.length : Nat) : Int)], oI bp 118 [(vI a.vars), (vI a.start), (.slice j.nb a.next.length j.nc), (.slice j.fb a.final.length j.fc), (vI b.vars), (vI b.start), (.slice k.nb b.next.length k.nc), (.slice k.fb b.final.length k.fc), (.slice qb ks.length qc), (.map (some m))], mapI pairV (fun n : Nat => Value.int .i64 (n : Int)) m ((pmap b.next.length ks) ++ [(un b.next.length c, ks.length)])] [(0, 0), (1, 0), (2, 0), (3, 0), (4, 0), (5, 0), (6, 1), (7, 1), (8, 0), (9, 0), (10, 2)] mixed (by kernel_rfl) (by exact Sub.k (.k (.d (.k .z)))) (fun _ _ _ h => h) ?_
 refine DO.q rfl (q_move rfl) (DO.q rfl (q_move rfl) (DO.q rfl (q_nilCheck rfl) (DO.q rfl (q_fa uT118 rfl inf115 rfl rfl) (DO.q rfl (q_lb 1 uT115 rfl rfl rfl rfl) (DO.q rfl (q_la 0 uT114 rfl inf114 rfl rfl rfl) ?_)))))
 refine DO.loud rfl rfl (l_buildSlice (m := 1) (parts := [(0, _)]) (cs := [vI ((c / b.next.length : Nat) : Int), vI ((c % b.next.length : Nat) : Int)]) uT115 inf114 (by decide) (by kernel_rfl) rfl (fun bx2 => ⟨by exact Sub.d (.k (.k (.d (.k .z)))), ?_⟩))
 refine DO.loud rfl rfl (l_append 3 uT115 uT115 inf114 rfl rfl rfl rfl (by rw [prs_len]) (by decide) (Src.row (j := 0) rfl (by simp)) (by simp [oneB]) (by omega) (by decide) (by decide) (fun bx3 c4 => ⟨by exact Sub.d (.k (.k (.d (.k .z)))), ?_⟩))
 refine DO.q rfl (q_nilCheck rfl) (DO.q rfl (q_fa uT118 rfl inf115 rfl rfl) ?_)
 refine DO.last rfl rfl (l_sb (v := (.slice bx3 (ks.length + 1) c4)) (vs := [(.slice bx3 (ks.length + 1) c4)]) 2 inf115 rfl rfl rfl rfl rfl rfl (by simp [putL]) ?_)
 refine DO.done ?_
 refine T.s (T.rg (TO.qm rfl (TO.qa rfl (TO.nl (T.ret (Res.drop ?_))))))
 refine Res.one (vI (ks.length : Int)) Tryz.results110 rfl ?_
 have ha : add ks c = ks ++ [c] := if_neg hk
 rw [ha]
 exact ⟨[oI bp 118 [(vI a.vars), (vI a.start), (.slice j.nb a.next.length j.nc), (.slice j.fb a.final.length j.fc), (vI b.vars), (vI b.start), (.slice k.nb b.next.length k.nc), (.slice k.fb b.final.length k.fc), (.slice bx3 (ks.length + 1) c4), (.map (some m))], rowI bx3 c4 114 2 ((prs b.next.length ks) ++ [vI ((c / b.next.length : Nat) : Int), vI ((c % b.next.length : Nat) : Int)]), mapI pairV (fun n : Nat => Value.int .i64 (n : Int)) m ((pmap b.next.length ks) ++ [(un b.next.length c, ks.length)])], (by exact Sub.d (.d (.k (.k (.k .z))))), by rw [ix_append_right hk]; simp [ix], _, _, by rw [prs_snoc, pmap_snoc, List.length_append]; rfl⟩
theorem pvC (base : World) [Tab Tryz.prog base] (a b : DFA) (j k : DK) (bp m : Nat) (ks : List Nat) (c : Nat) (qb : Option Addr) (qc : Nat) (hl : ks.length ≤ 17000000) :
  CallT Tryz.prog base 110 [.pointer (aD bp), (.agg #[vI ((c / b.next.length : Nat) : Int), vI ((c % b.next.length : Nat) : Int)])] [objI bp (.cells (List.toArray [(vI a.vars), (vI a.start), (.slice j.nb a.next.length j.nc), (.slice j.fb a.final.length j.fc), (vI b.vars), (vI b.start), (.slice k.nb b.next.length k.nc), (.slice k.fb b.final.length k.fc), (.slice qb ks.length qc), (.map (some m))]) 118 (0, 0)), rowI qb qc 114 2 (prs b.next.length ks), mapI pairV (fun n : Nat => Value.int .i64 (n : Int)) m (pmap b.next.length ks)] (fun v O' => v = vI ((ix c (add ks c) : Nat) : Int) ∧ ∃ qb' qc', O' = [objI bp (.cells (List.toArray [(vI a.vars), (vI a.start), (.slice j.nb a.next.length j.nc), (.slice j.fb a.final.length j.fc), (vI b.vars), (vI b.start), (.slice k.nb b.next.length k.nc), (.slice k.fb b.final.length k.fc), (.slice qb' ((add ks c).length) qc'), (.map (some m))]) 118 (0, 0)), rowI qb' qc' 114 2 (prs b.next.length (add ks c)), mapI pairV (fun n : Nat => Value.int .i64 (n : Int)) m (pmap b.next.length (add ks c))]) := by
 by_cases hk : c ∈ ks
 ·exact pvHit base a b j k bp m ks c qb qc hk hl
 ·exact pvNew base a b j k bp m ks c qb qc hk hl
end Go.Proofs.YtnpehjpookcfkaaGreatDoor


namespace Go.Proofs.YtnpehjpookcfkaaGreatDoor
open Go.Lx Go.RowKit _root_.Go.Proofs.Tryz
theorem pvS (base : World) [Tab Tryz.prog base] (f : Bool → Bool → Bool) (a b : DFA) (j k : DK) (bp m i o x : Nat) (qb : Option Addr) (qc : Nat) (va : Valid a) (vb : Valid b) (hv : a.vars = b.vars) (hq : (bfsN (prodD f a b) i)[i]? = some o) (hx : x < 2 ^ a.vars.toNat) :
  CallT Tryz.prog base 110 [.pointer (aD bp), (.agg #[vI (((toN (prodD f a b) o x) / b.next.length : Nat) : Int), vI (((toN (prodD f a b) o x) % b.next.length : Nat) : Int)])] [objI bp (.cells (List.toArray [(vI a.vars), (vI a.start), (.slice j.nb a.next.length j.nc), (.slice j.fb a.final.length j.fc), (vI b.vars), (vI b.start), (.slice k.nb b.next.length k.nc), (.slice k.fb b.final.length k.fc), (.slice qb ((bfsM (prodD f a b) i o x).length) qc), (.map (some m))]) 118 (0, 0)), rowI qb qc 114 2 (prs b.next.length (bfsM (prodD f a b) i o x)), mapI pairV (fun n : Nat => Value.int .i64 (n : Int)) m (pmap b.next.length (bfsM (prodD f a b) i o x))] (fun v O' => v = vI ((ix (toN (prodD f a b) o x) (order (prodD f a b)) : Nat) : Int) ∧ ∃ qb' qc', O' = [objI bp (.cells (List.toArray [(vI a.vars), (vI a.start), (.slice j.nb a.next.length j.nc), (.slice j.fb a.final.length j.fc), (vI b.vars), (vI b.start), (.slice k.nb b.next.length k.nc), (.slice k.fb b.final.length k.fc), (.slice qb' ((bfsM (prodD f a b) i o (x + 1)).length) qc'), (.map (some m))]) 118 (0, 0)), rowI qb' qc' 114 2 (prs b.next.length (bfsM (prodD f a b) i o (x + 1))), mapI pairV (fun n : Nat => Value.int .i64 (n : Int)) m (pmap b.next.length (bfsM (prodD f a b) i o (x + 1)))]) := by
 have ho := (pr_bfs_ok (f := f) va vb hv i).2 o (List.mem_of_getElem? hq)
 have hil := (List.getElem?_eq_some_iff.1 hq).1
 have hbl := pr_bfs_len (f := f) va vb hv i
 have hml := pr_bfsM_len (f := f) va vb hv (i := i) ho (Nat.le_of_lt hx)
 have h4 : a.next.length * b.next.length ≤ 4096 * 4096 := Nat.mul_le_mul va.n4 vb.n4
 rw [bfsM_step]
 refine (pvC base a b j k bp m (bfsM (prodD f a b) i o x) (toN (prodD f a b) o x) qb qc (by omega)).mono ?_
 rintro v O' ⟨rfl, h⟩
 refine ⟨?_, h⟩
 rw [← bfsM_step, visit_old hq (x := x + 1) hx (by rw [prod_len]; omega) (by rw [bfsM_step]; exact mem_add.2 (.inr rfl))]
theorem pairs1 (base : World) [Tab Tryz.prog base] (f : Bool → Bool → Bool) (a b : DFA) (j k : DK) (ha : At base a j) (hb : At base b k) (va : Valid a) (vb : Valid b) (hv : a.vars = b.vars) (L : Nat) (hL : 2 ^ a.vars.toNat = L) (bx bp m : Nat) (qb0 : Option Addr) (qc0 : Nat) (yv : Value) (J : Nat → List Lx.Item → Prop) (Q : List Lx.Item → Prop)
  (hy : ∀ (i o : Nat) (qb : Option Addr) (qc rb : Nat) (O : List Lx.Item), (bfsN (prodD f a b) i)[i]? = some o → J i O → CallV Tryz.prog base yv [(.agg #[vI ((o / b.next.length : Nat) : Int), vI ((o % b.next.length : Nat) : Int)]), .slice (aD rb) L L] (O ++ [oI bp 118 [(vI a.vars), (vI a.start), (.slice j.nb a.next.length j.nc), (.slice j.fb a.final.length j.fc), (vI b.vars), (vI b.start), (.slice k.nb b.next.length k.nc), (.slice k.fb b.final.length k.fc), (.slice qb ((bfsN (prodD f a b) (i + 1)).length) qc), (.map (some m))], rowI qb qc 114 2 (prs b.next.length (bfsN (prodD f a b) (i + 1))), mapI pairV (fun n : Nat => Value.int .i64 (n : Int)) m (pmap b.next.length (bfsN (prodD f a b) (i + 1))), rowI (aD rb) L 3 1 (ints (rnR (prodD f a b) o))])
   (fun v O' => (v = .bool true ∧ ∃ O2, O' = O2 ++ [oI bp 118 [(vI a.vars), (vI a.start), (.slice j.nb a.next.length j.nc), (.slice j.fb a.final.length j.fc), (vI b.vars), (vI b.start), (.slice k.nb b.next.length k.nc), (.slice k.fb b.final.length k.fc), (.slice qb ((bfsN (prodD f a b) (i + 1)).length) qc), (.map (some m))], rowI qb qc 114 2 (prs b.next.length (bfsN (prodD f a b) (i + 1))), mapI pairV (fun n : Nat => Value.int .i64 (n : Int)) m (pmap b.next.length (bfsN (prodD f a b) (i + 1)))] ∧ J (i + 1) O2) ∨ (v = .bool false ∧ Q O')))
  (O : List Lx.Item) (h0 : J 0 O) :
  CallT Tryz.prog base 109 [yv, .pointer (aD bx)] ([oI bx 107 [(.pointer (aD bp))], oI bp 118 [(vI a.vars), (vI a.start), (.slice j.nb a.next.length j.nc), (.slice j.fb a.final.length j.fc), (vI b.vars), (vI b.start), (.slice k.nb b.next.length k.nc), (.slice k.fb b.final.length k.fc), (.slice qb0 ((bfsN (prodD f a b) 0).length) qc0), (.map (some m))], rowI qb0 qc0 114 2 (prs b.next.length (bfsN (prodD f a b) 0)), mapI pairV (fun n : Nat => Value.int .i64 (n : Int)) m (pmap b.next.length (bfsN (prodD f a b) 0))] ++ O) (fun _ O' => (∃ N qb qc O2, O' = O2 ++ [oI bp 118 [(vI a.vars), (vI a.start), (.slice j.nb a.next.length j.nc), (.slice j.fb a.final.length j.fc), (vI b.vars), (vI b.start), (.slice k.nb b.next.length k.nc), (.slice k.fb b.final.length k.fc), (.slice qb ((bfsN (prodD f a b) N).length) qc), (.map (some m))], rowI qb qc 114 2 (prs b.next.length (bfsN (prodD f a b) N)), mapI pairV (fun n : Nat => Value.int .i64 (n : Int)) m (pmap b.next.length (bfsN (prodD f a b) N))] ∧ (bfsN (prodD f a b) N).length = N ∧ J N O2) ∨ Q O') := by
 refine CallT.enter func109 rfl ntmps109 rfl ?_
 have h4 : a.next.length * b.next.length ≤ 4096 * 4096 := Nat.mul_le_mul va.n4 vb.n4
 have hw : L ≤ 64 := by rw [← hL]; exact va.width
 have ha1 := ha.rows.1
 have hb1 := hb.rows.1
 refine T.s (T.rg (TO.qa rfl (TO.nl (T.block ?_))))
 refine T.loop (fun (i : Nat) ρ O => ∃ (qb : Option Addr) (qc : Nat) (O1 : List Lx.Item), O = ([oI bx 107 [(.pointer (aD bp))], oI bp 118 [(vI a.vars), (vI a.start), (.slice j.nb a.next.length j.nc), (.slice j.fb a.final.length j.fc), (vI b.vars), (vI b.start), (.slice k.nb b.next.length k.nc), (.slice k.fb b.final.length k.fc), (.slice qb ((bfsN (prodD f a b) i).length) qc), (.map (some m))], rowI qb qc 114 2 (prs b.next.length (bfsN (prodD f a b) i)), mapI pairV (fun n : Nat => Value.int .i64 (n : Int)) m (pmap b.next.length (bfsN (prodD f a b) i))] ++ O1) ∧ i ≤ (bfsN (prodD f a b) i).length ∧ J i O1 ∧ Heads [(0, yv), (1, (.pointer (aD bx))), (3, vI ((i : Nat) : Int))] ρ) (fun i => a.next.length * b.next.length - i) 0 ?_ ?_
 ·exact ⟨qb0, qc0, O, rfl, Nat.zero_le _, h0, ⟨rfl, rfl, rfl, trivial⟩⟩
 rintro i ρ O ⟨qb, qc, O1, rfl, hle, hJ, hH⟩
 obtain ⟨ρ0, rfl⟩ := hH.elim
 clear hH
 have hbl := pr_bfs_len (f := f) va vb hv i
 refine T.s (T.s (T.rg (TO.qm rfl (TO.q (q_lb 0 uT107 rfl rfl rfl rfl) (TO.q (q_nilCheck rfl) (TO.q (q_fa uT118 rfl inf115 rfl rfl) (TO.q (q_lb 1 uT115 rfl rfl rfl rfl) (TO.q (q_len uT115 rfl) (TO.q (q_lss rfl rfl) (TO.nl (T.condP rfl (fun hc => ?_) (fun hc => ?_))))))))))))
 ·have hlt13 : i < (bfsN (prodD f a b) i).length := by omega
  obtain ⟨o, hq⟩ : ∃ o, (bfsN (prodD f a b) i)[i]? = some o := ⟨_, List.getElem?_eq_getElem hlt13⟩
  have ho := (pr_bfs_ok (f := f) va vb hv i).2 o (List.mem_of_getElem? hq)
  obtain ⟨hs, ht⟩ := pr_split ho
  obtain ⟨v1, c1, g1, s1⟩ := ha.rows.get hs
  obtain ⟨v2, c2, g2, s2⟩ := hb.rows.get ht
  refine T.skip (T.s (T.block (T.s (T.rg (TO.q (q_lb 0 uT107 rfl rfl rfl rfl) (TO.q (q_nilCheck rfl) (TO.q (q_fa uT118 rfl inf115 rfl rfl) (TO.q (q_lb 1 uT115 rfl rfl rfl rfl) (TO.qm rfl (TO.q (q_ixK (i := i) uT115 inf114 rfl rfl (rowO (mG 2 rfl)) hlt13 (by rw [prs_len]; omega)) (TO.q (q_ldK (vs := [vI ((o / b.next.length : Nat) : Int), vI ((o % b.next.length : Nat) : Int)]) uT114 rfl inf114 rfl rfl (Nat.succ_pos _) (rowO (mG 2 rfl)) (prs_get hq)) (TO.l rfl (l_alloc inf114 rfl (fun z1 => ?_))))))))))))))
  refine TO.l rfl (l_sb (v := (.agg #[vI ((o / b.next.length : Nat) : Int), vI ((o % b.next.length : Nat) : Int)])) (vs := [vI ((o / b.next.length : Nat) : Int), vI ((o % b.next.length : Nat) : Int)]) 0 inf114 rfl rfl rfl rfl rfl rfl (by simp [putL]) ?_)
  refine TO.nl (T.s (T.rg (TO.q (q_lb 1 uT107 rfl rfl rfl rfl) (TO.q (q_nilCheck rfl) (TO.q (q_fa uT118 rfl inf25 rfl rfl) (TO.q (q_fa uT25 rfl inf3 rfl rfl) (TO.q (q_lb 2 uT3 rfl rfl rfl rfl) (TO.q (QT.cast (q_shl1 (v := a.vars.toNat) rfl (by show Value.int _ a.vars = _; rw [Int.toNat_of_nonneg va.v0]) (by have := va.v6; omega)) (v' := vI ((L : Nat) : Int)) (by rw [hL])) (TO.l rfl (l_makeSlice (m := L) uT48 inf3 rfl rfl (by omega) (by omega) (fun z2 => ?_)))))))))))
  refine TO.qa rfl (TO.nl (T.s (T.s (T.rg (TO.qm rfl (TO.q (q_len uT48 rfl) (TO.qm rfl (TO.nl (T.block ?_)))))))))
  refine T.sub (O' := ([oI bp 118 [(vI a.vars), (vI a.start), (.slice j.nb a.next.length j.nc), (.slice j.fb a.final.length j.fc), (vI b.vars), (vI b.start), (.slice k.nb b.next.length k.nc), (.slice k.fb b.final.length k.fc), (.slice qb ((bfsN (prodD f a b) i).length) qc), (.map (some m))], rowI qb qc 114 2 (prs b.next.length (bfsN (prodD f a b) i)), mapI pairV (fun n : Nat => Value.int .i64 (n : Int)) m (pmap b.next.length (bfsN (prodD f a b) i)), rowI (aD z2) L 3 1 (List.replicate L (vI 0)), oI z1 114 [vI ((o / b.next.length : Nat) : Int), vI ((o % b.next.length : Nat) : Int)], oI bx 107 [(.pointer (aD bp))]] ++ O1)) (by exact Sub.pull [rowI (aD z2) L 3 1 (List.replicate L (vI 0)), oI z1 114 [vI ((o / b.next.length : Nat) : Int), vI ((o % b.next.length : Nat) : Int)], oI bx 107 [(.pointer (aD bp))]] _ (.pull [rowI (aD z2) L 3 1 (List.replicate L (vI 0)), oI z1 114 [vI ((o / b.next.length : Nat) : Int), vI ((o % b.next.length : Nat) : Int)], oI bx 107 [(.pointer (aD bp))]] _ (.pull [rowI (aD z2) L 3 1 (List.replicate L (vI 0)), oI z1 114 [vI ((o / b.next.length : Nat) : Int), vI ((o % b.next.length : Nat) : Int)], oI bx 107 [(.pointer (aD bp))]] _ (.k (.k (.k .rf)))))) ?_
  refine T.loop (fun (x : Nat) ρ O => ∃ (qbm : Option Addr) (qcm : Nat) (ys : List Nat), O = ([oI bp 118 [(vI a.vars), (vI a.start), (.slice j.nb a.next.length j.nc), (.slice j.fb a.final.length j.fc), (vI b.vars), (vI b.start), (.slice k.nb b.next.length k.nc), (.slice k.fb b.final.length k.fc), (.slice qbm ((bfsM (prodD f a b) i o x).length) qcm), (.map (some m))], rowI qbm qcm 114 2 (prs b.next.length (bfsM (prodD f a b) i o x)), mapI pairV (fun n : Nat => Value.int .i64 (n : Int)) m (pmap b.next.length (bfsM (prodD f a b) i o x)), rowI (aD z2) L 3 1 (nats ys), oI z1 114 [vI ((o / b.next.length : Nat) : Int), vI ((o % b.next.length : Nat) : Int)], oI bx 107 [(.pointer (aD bp))]] ++ O1) ∧ x ≤ L ∧ ys.length = L ∧ (∀ y, y < x → ys[y]? = some (ix (toN (prodD f a b) o y) (order (prodD f a b)))) ∧ Heads [(0, yv), (1, (.pointer (aD bx))), (3, vI ((i : Nat) : Int)), (4, (.pointer (aD z1))), (5, (.slice (aD z2) L L)), (31, vI (L : Int)), (32, vI ((x : Nat) : Int))] ρ) (fun x => L - x) 0 ?_ ?_
  ·refine ⟨qb, qc, List.replicate L 0, ?_, Nat.zero_le _, by simp, fun y hy9 => absurd hy9 (by omega), (.of rfl)⟩
   rw [show List.replicate L (Value.int .i64 0) = nats (List.replicate L 0) by simp]; rfl
  rintro x ρ O ⟨qbm, qcm, ys, rfl, hx, hyl, hys, hH⟩
  obtain ⟨ρ0, rfl⟩ := hH.elim
  clear hH
  refine T.s (T.rg (TO.q (q_lss rfl rfl) (TO.nl (T.s (T.condP rfl (fun hc => ?_) (fun hc => ?_))))))
  ·have hlt33 : x < L := by omega
   have hxa : x < 2 ^ a.vars.toNat := by omega
   have hxb : x < 2 ^ b.vars.toNat := by rw [← hv]; exact hxa
   obtain ⟨t1, _, x1, d1⟩ := va.toN_lt hs hxa
   obtain ⟨t2, _, x2, d2⟩ := vb.toN_lt ht hxb
   have hst := (pr_toN_lt (f := f) va vb hv ho hxa).1
   have hdm := pr_div (n := b.next.length) (s := toN a (o / b.next.length) x) t2
   rw [← hst] at hdm
   have hx1 : (ints a.next[o / b.next.length])[x]? = some (vI ((toN (prodD f a b) o x / b.next.length : Nat) : Int)) := by rw [ints_get x1, d1, hdm.1]
   have hx2 : (ints b.next[o % b.next.length])[x]? = some (vI ((toN (prodD f a b) o x % b.next.length : Nat) : Int)) := by rw [ints_get x2, d2, hdm.2]
   refine T.skip (T.s (T.block (T.s (T.rg (TO.qm rfl (TO.qa rfl (TO.nl ?_)))))))
   refine T.draws2 [] [oI bp 118 [(vI a.vars), (vI a.start), (.slice j.nb a.next.length j.nc), (.slice j.fb a.final.length j.fc), (vI b.vars), (vI b.start), (.slice k.nb b.next.length k.nc), (.slice k.fb b.final.length k.fc), (.slice qbm ((bfsM (prodD f a b) i o x).length) qcm), (.map (some m))], oI z1 114 [vI ((o / b.next.length : Nat) : Int), vI ((o % b.next.length : Nat) : Int)], oI bx 107 [(.pointer (aD bp))]] [(0, 0), (1, 0), (2, 3), (3, 3), (4, 3), (5, 3), (6, 3), (7, 3), (8, 3), (9, 3), (10, 3), (11, 3), (12, 3), (13, 3), (14, 3), (15, 3), (16, 3), (17, 3), (18, 3), (19, 3), (20, 3), (21, 3), (22, 3), (23, 3), (24, 3), (25, 3), (26, 3), (27, 3), (28, 4), (29, 2), (30, 2)] mixed (drawF_ok (by kernel_rfl)) (Sub.of (List.nil_sublist _)) (by exact Sub.k (.d (.d (.d (.k (.k .z)))))) (fun _ _ _ h => h) ?_
   refine DO.q rfl (q_move rfl) (DO.q rfl (q_move rfl) ?_)
   refine DO.quiet2 rfl (q_lb 2 uT107 rfl rfl rfl rfl) ?_
   refine DO.quiet2 rfl (q_lb 2 uT107 rfl rfl rfl rfl) ?_
   refine DO.quiet2 rfl (q_nilCheck rfl) ?_
   refine DO.quiet2 rfl (q_fa uT118 rfl inf25 rfl rfl) ?_
   refine DO.quiet2 rfl (q_fa uT25 rfl inf22 rfl rfl) ?_
   refine DO.quiet2 rfl (q_lb 0 uT22 rfl rfl rfl rfl) ?_
   refine DO.quiet2 rfl (q_fa uT114 rfl inf3 rfl rfl) ?_
   refine DO.quiet2 rfl (q_lb 1 uT3 rfl rfl rfl rfl) ?_
   refine DO.quiet2 rfl (q_ix (i := (o / b.next.length)) uT22 inf48 rfl rfl (Sl.o ha.outer) hs (by rw [ha1]; exact hs)) ?_
   refine DO.quiet2 rfl (q_ld uT48 rfl rfl (Sl.o ha.outer) g1) ?_
   refine DO.quiet2 rfl (q_move rfl) ?_
   refine DO.quiet2 rfl (q_ix (i := x) uT48 inf3 rfl rfl (Sl.o s1) x1 (by rw [List.length_map]; exact x1)) ?_
   refine DO.quiet2 rfl (q_ld uT3 rfl rfl (Sl.o s1) hx1) ?_
   refine DO.quiet2 rfl (q_lb 2 uT107 rfl rfl rfl rfl) ?_
   refine DO.quiet2 rfl (q_nilCheck rfl) ?_
   refine DO.quiet2 rfl (q_fa uT118 rfl inf25 rfl rfl) ?_
   refine DO.quiet2 rfl (q_fa uT25 rfl inf22 rfl rfl) ?_
   refine DO.quiet2 rfl (q_lb 0 uT22 rfl rfl rfl rfl) ?_
   refine DO.quiet2 rfl (q_fa uT114 rfl inf3 rfl rfl) ?_
   refine DO.quiet2 rfl (q_lb 1 uT3 rfl rfl rfl rfl) ?_
   refine DO.quiet2 rfl (q_ix (i := (o % b.next.length)) uT22 inf48 rfl rfl (Sl.o hb.outer) ht (by rw [hb1]; exact ht)) ?_
   refine DO.quiet2 rfl (q_ld uT48 rfl rfl (Sl.o hb.outer) g2) ?_
   refine DO.quiet2 rfl (q_move rfl) ?_
   refine DO.quiet2 rfl (q_ix (i := x) uT48 inf3 rfl rfl (Sl.o s2) x2 (by rw [List.length_map]; exact x2)) ?_
   refine DO.quiet2 rfl (q_ld uT3 rfl rfl (Sl.o s2) hx2) ?_
   refine DO.quiet2 rfl (q_build (cs := [vI (((toN (prodD f a b) o x) / b.next.length : Nat) : Int), vI (((toN (prodD f a b) o x) % b.next.length : Nat) : Int)]) plan114 inf114 (by kernel_rfl)) ?_
   have hk63 := CallT.under (B := ([rowI (aD z2) L 3 1 (nats ys), oI z1 114 [vI ((o / b.next.length : Nat) : Int), vI ((o % b.next.length : Nat) : Int)], oI bx 107 [(.pointer (aD bp))]] ++ O1)) (O := ([oI bp 118 [(vI a.vars), (vI a.start), (.slice j.nb a.next.length j.nc), (.slice j.fb a.final.length j.fc), (vI b.vars), (vI b.start), (.slice k.nb b.next.length k.nc), (.slice k.fb b.final.length k.fc), (.slice qbm ((bfsM (prodD f a b) i o x).length) qcm), (.map (some m))], rowI qbm qcm 114 2 (prs b.next.length (bfsM (prodD f a b) i o x)), mapI pairV (fun n : Nat => Value.int .i64 (n : Int)) m (pmap b.next.length (bfsM (prodD f a b) i o x)), rowI (aD z2) L 3 1 (nats ys), oI z1 114 [vI ((o / b.next.length : Nat) : Int), vI ((o % b.next.length : Nat) : Int)], oI bx 107 [(.pointer (aD bp))]] ++ O1)) (pvS base f a b j k bp m i o x qbm qcm va vb hv hq (by omega)) (by exact Sub.rf)
   refine DO.last2 rfl rfl (l_call ent110 hk63 rfl ?_)
   clear hk63
   rintro vr O' ⟨A1, rfl, rfl, qb2, qc2, rfl⟩
   refine ⟨by exact Sub.z, ?_⟩
   refine DO.last rfl rfl (LT.oq rfl rfl (q_ix (i := x) uT48 inf3 rfl rfl (rowO (mG 3 rfl))) ?_)
   refine DO.last rfl rfl (l_st (j := x) (v := vI ((ix (toN (prodD f a b) o x) (order (prodD f a b)) : Nat) : Int)) (vs := [(vI ((ix (toN (prodD f a b) o x) (order (prodD f a b)) : Nat) : Int))]) (cs := nats ys) 3 inf3 rfl rfl rfl rfl rfl (by simp) rfl (by first | (simp; omega) | (simp_all; omega)) ?_)
   refine DO.sub (O' := ([oI bp 118 [(vI a.vars), (vI a.start), (.slice j.nb a.next.length j.nc), (.slice j.fb a.final.length j.fc), (vI b.vars), (vI b.start), (.slice k.nb b.next.length k.nc), (.slice k.fb b.final.length k.fc), (.slice qb2 ((bfsM (prodD f a b) i o (x + 1)).length) qc2), (.map (some m))], rowI qb2 qc2 114 2 (prs b.next.length (bfsM (prodD f a b) i o (x + 1))), mapI pairV (fun n : Nat => Value.int .i64 (n : Int)) m (pmap b.next.length (bfsM (prodD f a b) i o (x + 1))), rowI (aD z2) L 3 1 (nats (ys.set x (ix (toN (prodD f a b) o x) (order (prodD f a b))))), oI z1 114 [vI ((o / b.next.length : Nat) : Int), vI ((o % b.next.length : Nat) : Int)], oI bx 107 [(.pointer (aD bp))]] ++ O1)) (by rw [show putL (nats ys) x [(vI ((ix (toN (prodD f a b) o x) (order (prodD f a b)) : Nat) : Int))] = nats (ys.set x (ix (toN (prodD f a b) o x) (order (prodD f a b)))) from by simp [putL]]; exact Sub.of (List.Sublist.refl _)) ?_
   refine DO.done ?_
   refine T.rg (TO.q (q_addN (a := x) (b := 1) rfl rfl (by omega)) (TO.qm rfl (TO.nl ?_)))
   refine ⟨x + 1, by omega, qb2, qc2, ys.set x (ix (toN (prodD f a b) o x) (order (prodD f a b))), rfl, by omega, by simp [hyl], fun y hy9 => ?_, (.of rfl)⟩
   by_cases e : y = x
   ·subst e; rw [List.getElem?_set_self (by omega)]
   ·rw [List.getElem?_set_ne (fun h => e h.symm)]; exact hys y (by omega)
  have hge33 : ¬ x < L := by omega
  refine T.exit ?_
  refine T.s ?_
  have hxe : x = L := by omega
  have e1 : bfsN (prodD f a b) (i + 1) = bfsM (prodD f a b) i o x := by rw [hxe, ← hL]; exact (bfsM_full hq).symm
  have e3 : renRow (prodD f a b) o = ys := by
   apply List.ext_getElem?
   intro y
   by_cases hy9 : y < L
   ·rw [hys y (by omega)]
    have hy8 : y < 2 ^ (prodD f a b).vars.toNat := by show y < 2 ^ a.vars.toNat; omega
    unfold renRow
    rw [List.getElem?_map, sucs_get hy8]; rfl
   ·rw [List.getElem?_eq_none (by rw [renRow_length]; show 2 ^ a.vars.toNat ≤ y; omega), List.getElem?_eq_none (by omega)]
  have e2 : ints (rnR (prodD f a b) o) = nats ys := by unfold rnR; rw [e3]; simp [Function.comp_def]
  refine T.sub (O' := ([oI bp 118 [(vI a.vars), (vI a.start), (.slice j.nb a.next.length j.nc), (.slice j.fb a.final.length j.fc), (vI b.vars), (vI b.start), (.slice k.nb b.next.length k.nc), (.slice k.fb b.final.length k.fc), (.slice qbm ((bfsN (prodD f a b) (i + 1)).length) qcm), (.map (some m))], rowI qbm qcm 114 2 (prs b.next.length (bfsN (prodD f a b) (i + 1))), mapI pairV (fun n : Nat => Value.int .i64 (n : Int)) m (pmap b.next.length (bfsN (prodD f a b) (i + 1))), rowI (aD z2) L 3 1 (ints (rnR (prodD f a b) o)), oI z1 114 [vI ((o / b.next.length : Nat) : Int), vI ((o % b.next.length : Nat) : Int)], oI bx 107 [(.pointer (aD bp))]] ++ O1)) (by rw [e1, e2]; exact Sub.rf) ?_
  refine T.rg (TO.qm rfl (TO.q (q_la 4 uT114 rfl inf114 rfl rfl rfl) (TO.qm rfl ?_)))
  have hk69 := CallV.under (B := [oI z1 114 [vI ((o / b.next.length : Nat) : Int), vI ((o % b.next.length : Nat) : Int)], oI bx 107 [(.pointer (aD bp))]]) (O := ([oI bp 118 [(vI a.vars), (vI a.start), (.slice j.nb a.next.length j.nc), (.slice j.fb a.final.length j.fc), (vI b.vars), (vI b.start), (.slice k.nb b.next.length k.nc), (.slice k.fb b.final.length k.fc), (.slice qbm ((bfsN (prodD f a b) (i + 1)).length) qcm), (.map (some m))], rowI qbm qcm 114 2 (prs b.next.length (bfsN (prodD f a b) (i + 1))), mapI pairV (fun n : Nat => Value.int .i64 (n : Int)) m (pmap b.next.length (bfsN (prodD f a b) (i + 1))), rowI (aD z2) L 3 1 (ints (rnR (prodD f a b) o)), oI z1 114 [vI ((o / b.next.length : Nat) : Int), vI ((o % b.next.length : Nat) : Int)], oI bx 107 [(.pointer (aD bp))]] ++ O1)) (hy i o qbm qcm z2 O1 hq hJ) (Sub.ca [])
  refine TO.l rfl (l_callG hk69 rfl rfl ?_)
  clear hk69
  rintro vr O' ⟨A1, rfl, ⟨rfl, O2, rfl, hJ2⟩ | ⟨rfl, hQ2⟩⟩
  ·refine TO.q (q_not rfl) ?_
   refine TO.nl (T.cond0 rfl (T.skip ?_))
   refine T.sub (O' := ([oI bx 107 [(.pointer (aD bp))], oI bp 118 [(vI a.vars), (vI a.start), (.slice j.nb a.next.length j.nc), (.slice j.fb a.final.length j.fc), (vI b.vars), (vI b.start), (.slice k.nb b.next.length k.nc), (.slice k.fb b.final.length k.fc), (.slice qbm ((bfsN (prodD f a b) (i + 1)).length) qcm), (.map (some m))], rowI qbm qcm 114 2 (prs b.next.length (bfsN (prodD f a b) (i + 1))), mapI pairV (fun n : Nat => Value.int .i64 (n : Int)) m (pmap b.next.length (bfsN (prodD f a b) (i + 1)))] ++ O2)) (Sub.ca [oI z1 114 [vI ((o / b.next.length : Nat) : Int), vI ((o % b.next.length : Nat) : Int)]]) ?_
   refine T.rg (TO.qm rfl (TO.q (q_addN (a := i) (b := 1) rfl rfl (by omega)) (TO.qa rfl (TO.nl ?_))))
   have hpl := (bfsN_prefix (prodD f a b) i (i + 1) (by omega)).length_le
   exact ⟨i + 1, by omega, qbm, qcm, O2, rfl, by omega, hJ2, ⟨rfl, rfl, rfl, trivial⟩⟩
  refine TO.q (q_not rfl) (TO.nl ?_)
  refine T.cond1 rfl ?_
  refine T.ret (Res.drop ?_)
  refine Res.zero Tryz.results109 ?_
  exact ⟨A1, Sub.of (List.sublist_append_left _ _), .inr hQ2⟩
 have hge13 : ¬ i < (bfsN (prodD f a b) i).length := by omega
 refine T.exit ?_
 refine Res.drop ?_
 refine Res.zero Tryz.results109 ?_
 have hN : (bfsN (prodD f a b) i).length = i := by omega
 exact ⟨O1 ++ [oI bp 118 [(vI a.vars), (vI a.start), (.slice j.nb a.next.length j.nc), (.slice j.fb a.final.length j.fc), (vI b.vars), (vI b.start), (.slice k.nb b.next.length k.nc), (.slice k.fb b.final.length k.fc), (.slice qb ((bfsN (prodD f a b) i).length) qc), (.map (some m))], rowI qb qc 114 2 (prs b.next.length (bfsN (prodD f a b) i)), mapI pairV (fun n : Nat => Value.int .i64 (n : Int)) m (pmap b.next.length (bfsN (prodD f a b) i))], Sub.ca [oI bx 107 [(.pointer (aD bp))]], .inl ⟨i, qb, qc, O1, rfl, hN, hJ⟩⟩
end Go.Proofs.YtnpehjpookcfkaaGreatDoor


namespace Go.Proofs.YtnpehjpookcfkaaGreatDoor
open Go.Lx Go.RowKit _root_.Go.Proofs.Tryz
theorem minK (w : World) [Tab Tryz.prog w] (d : DFA) (k : DK) (h : At w d k) (hb : d.next.length < 9223372036854775807) (hbr : ∀ r ∈ d.next, r.length < 9223372036854775807) (hbf : d.final.length < 9223372036854775807) (hn : Valid d → d.next.length < 10000) :
  PureT Tryz.prog 39 [dV d k] w fun v N => ∃ k' : DK, v = .tuple #[dV (minV d) k', vI (checkD d : Int)] ∧ N = [dI 48 4 3 (minV d) k'] :=
 CallT.dk (g := fun x => .tuple #[x, vI (checkD d : Int)]) (minA w d k.nb k.fb k.nc k.fc (vals k.qs) h hb hbr hbf hn)
theorem minKE (w : World) [Tab Tryz.prog w] (d : DFA) (k : DK) (h : At w d k) (hv : Valid d) (hn : d.next.length < 10000) {M : DFA} (hM : minD d = M) :
  PureT Tryz.prog 39 [dV d k] w fun v N => ∃ k' : DK, v = .tuple #[dV M k', vI 0] ∧ N = [dI 48 4 3 M k'] := by
 have h1 := minK w d k h (by have := hv.n4; omega) hv.bound (by have := hv.fin; have := hv.n4; omega) (fun _ => hn)
 rw [minV_valid hv, hM, checkD_zero.2 hv] at h1
 exact h1
theorem rMinK (w : World) [Tab Tryz.prog w] (d : DFA) (k : DK) (h : At w d k) (hb : d.next.length < 9223372036854775807) (hbr : ∀ r ∈ d.next, r.length < 9223372036854775807) (hbf : d.final.length < 9223372036854775807) (hn : Valid d → d.next.length < 10000) :
  PureT Tryz.prog 41 [dV d k] w fun v N => ∃ k' : DK, v = .tuple #[dV (minV d) k', vI (checkD d : Int)] ∧ N = [dI 48 4 3 (minV d) k'] :=
 CallT.dk (g := fun x => .tuple #[x, vI (checkD d : Int)]) (rMinA w d k.nb k.fb k.nc k.fc (vals k.qs) h hb hbr hbf hn)
theorem rMinKE (w : World) [Tab Tryz.prog w] (d : DFA) (k : DK) (h : At w d k) (hv : Valid d) (hn : d.next.length < 10000) {M : DFA} (hM : minD d = M) :
  PureT Tryz.prog 41 [dV d k] w fun v N => ∃ k' : DK, v = .tuple #[dV M k', vI 0] ∧ N = [dI 48 4 3 M k'] := by
 have h1 := rMinK w d k h (by have := hv.n4; omega) hv.bound (by have := hv.fin; have := hv.n4; omega) (fun _ => hn)
 rw [minV_valid hv, hM, checkD_zero.2 hv] at h1
 exact h1
theorem notF (base : World) (x y : Bool) : CallT Tryz.prog base 101 [.bool x, .bool y] [] (fun v O' => v = .bool (notB x y) ∧ O' = []) := by
 refine CallT.enter func101 rfl ntmps101 rfl ?_
 refine T.s (T.rg (TO.qa rfl (TO.nl (T.s (T.rg (TO.qm rfl (TO.q (q_not rfl) (TO.qa rfl (TO.nl (T.ret ?_))))))))))
 refine Res.one (.bool (!x)) Tryz.results101 rfl ?_
 cases x <;> cases y <;> first | exact ⟨rfl, rfl⟩ | (exfalso; simp_all; done) | simp_all [andB, orB, xorB, minusB, notB]
set_option maxRecDepth 20000 in
theorem notFV (base : World) (x y : Bool) : CallV Tryz.prog base (.func (.func 101) #[] #[]) [.bool x, .bool y] [] (fun v O' => v = .bool (notB x y) ∧ O' = []) := CallV.of_fn (first := []) (caps := []) ent101 (notF base x y)
theorem andF (base : World) (x y : Bool) : CallT Tryz.prog base 72 [.bool x, .bool y] [] (fun v O' => v = .bool (andB x y) ∧ O' = []) := by
 refine CallT.enter func72 rfl ntmps72 rfl ?_
 refine T.s (T.rg (TO.qa rfl (TO.nl (T.s (T.rg (TO.qm rfl ?_))))))
 by_cases hs6 : x = true
 ·refine TO.q (QT.toB (q_move rfl) (hs6)) ?_
  refine TO.gq rfl rfl (q_move rfl) (TO.q (q_pick1 rfl rfl) (TO.qa rfl (TO.nl (T.ret ?_))))
  refine Res.one (.bool y) Tryz.results72 rfl ?_
  cases x <;> cases y <;> first | exact ⟨rfl, rfl⟩ | (exfalso; simp_all; done) | simp_all [andB, orB, xorB, minusB, notB]
 refine TO.q (QT.toB (q_move rfl) (Bool.eq_false_iff.2 hs6)) (TO.pd rfl rfl (TO.q (q_pick0 rfl rfl) (TO.qa rfl (TO.nl (T.ret ?_)))))
 refine Res.one (.bool false) Tryz.results72 rfl ?_
 cases x <;> cases y <;> first | exact ⟨rfl, rfl⟩ | (exfalso; simp_all; done) | simp_all [andB, orB, xorB, minusB, notB]
set_option maxRecDepth 20000 in
theorem andFV (base : World) (x y : Bool) : CallV Tryz.prog base (.func (.func 72) #[] #[]) [.bool x, .bool y] [] (fun v O' => v = .bool (andB x y) ∧ O' = []) := CallV.of_fn (first := []) (caps := []) ent72 (andF base x y)
theorem orF (base : World) (x y : Bool) : CallT Tryz.prog base 82 [.bool x, .bool y] [] (fun v O' => v = .bool (orB x y) ∧ O' = []) := by
 refine CallT.enter func82 rfl ntmps82 rfl ?_
 refine T.s (T.rg (TO.qa rfl (TO.nl (T.s (T.rg (TO.qm rfl ?_))))))
 by_cases hs6 : x = true
 ·refine TO.q (QT.toB (q_move rfl) (hs6)) ?_
  refine TO.pd rfl rfl (TO.q (q_pick1 rfl rfl) (TO.qa rfl (TO.nl (T.ret ?_))))
  refine Res.one (.bool true) Tryz.results82 rfl ?_
  cases x <;> cases y <;> first | exact ⟨rfl, rfl⟩ | (exfalso; simp_all; done) | simp_all [andB, orB, xorB, minusB, notB]
 refine TO.q (QT.toB (q_move rfl) (Bool.eq_false_iff.2 hs6)) (TO.gq rfl rfl (q_move rfl) (TO.q (q_pick0 rfl rfl) (TO.qa rfl (TO.nl (T.ret ?_)))))
 refine Res.one (.bool y) Tryz.results82 rfl ?_
 cases x <;> cases y <;> first | exact ⟨rfl, rfl⟩ | (exfalso; simp_all; done) | simp_all [andB, orB, xorB, minusB, notB]
set_option maxRecDepth 20000 in
theorem orFV (base : World) (x y : Bool) : CallV Tryz.prog base (.func (.func 82) #[] #[]) [.bool x, .bool y] [] (fun v O' => v = .bool (orB x y) ∧ O' = []) := CallV.of_fn (first := []) (caps := []) ent82 (orF base x y)
theorem minusF (base : World) (x y : Bool) : CallT Tryz.prog base 74 [.bool x, .bool y] [] (fun v O' => v = .bool (minusB x y) ∧ O' = []) := by
 refine CallT.enter func74 rfl ntmps74 rfl ?_
 refine T.s (T.rg (TO.qa rfl (TO.nl (T.s (T.rg (TO.qm rfl ?_))))))
 by_cases hs6 : x = true
 ·refine TO.q (QT.toB (q_move rfl) (hs6)) ?_
  refine TO.gq rfl rfl (q_move rfl) (TO.gq rfl rfl (q_not rfl) (TO.q (q_pick1 rfl rfl) (TO.qa rfl (TO.nl (T.ret ?_)))))
  refine Res.one (.bool (!y)) Tryz.results74 rfl ?_
  cases x <;> cases y <;> first | exact ⟨rfl, rfl⟩ | (exfalso; simp_all; done) | simp_all [andB, orB, xorB, minusB, notB]
 refine TO.q (QT.toB (q_move rfl) (Bool.eq_false_iff.2 hs6)) (TO.pd rfl rfl (TO.pd rfl rfl (TO.q (q_pick0 rfl rfl) (TO.qa rfl (TO.nl (T.ret ?_))))))
 refine Res.one (.bool false) Tryz.results74 rfl ?_
 cases x <;> cases y <;> first | exact ⟨rfl, rfl⟩ | (exfalso; simp_all; done) | simp_all [andB, orB, xorB, minusB, notB]
set_option maxRecDepth 20000 in
theorem minusFV (base : World) (x y : Bool) : CallV Tryz.prog base (.func (.func 74) #[] #[]) [.bool x, .bool y] [] (fun v O' => v = .bool (minusB x y) ∧ O' = []) := CallV.of_fn (first := []) (caps := []) ent74 (minusF base x y)
theorem combineBad (w : World) [Tab Tryz.prog w] (a b : DFA) (j k : DK) (ha : At w a j) (hb : At w b k) (haa : a.next.length < 9223372036854775807) (haar : ∀ r ∈ a.next, r.length < 9223372036854775807) (haaf : a.final.length < 9223372036854775807) (hbb : b.next.length < 9223372036854775807) (hbbr : ∀ r ∈ b.next, r.length < 9223372036854775807) (hbbf : b.final.length < 9223372036854775807) (g : Nat) (he : wrongD a b ≠ 0) :
  PureT Tryz.prog 71 [dV a j, dV b k, .func (.func g) #[] #[]] w fun v N => v = .tuple #[dV noD ⟨none, 0, none, 0, []⟩, vI (wrongD a b : Int)] ∧ N = [] := by
 refine CallT.enter func71 rfl ntmps71 rfl ?_
 refine T.s (T.rg (TO.l rfl (l_box (v := (dV a j)) (cs := (dC a j)) rfl rfl (fun bx1 => ?_))))
 refine TO.l rfl (l_box (v := (dV b k)) (cs := (dC b k)) rfl rfl (fun bx2 => ?_))
 refine TO.l rfl (l_box (v := (.func (.func g) #[] #[])) (cs := [(.func (.func g) #[] #[])]) rfl rfl (fun bx3 => ?_))
 refine TO.l rfl (l_alloc inf25 rfl (fun bx4 => ?_))
 refine TO.l rfl (l_alloc inf30 rfl (fun bx5 => ?_))
 refine TO.nl (T.s (T.rg (TO.q (q_la 4 uT25 rfl inf25 rfl rfl rfl) (TO.q (q_la 3 uT25 rfl inf25 rfl rfl rfl) (TO.l rfl (l_call ent95 (CallT.op fun w1 hI => (haveI := tbz hI; beginBad w1 a b j k (hI.atB ha) (hI.atB hb) haa haar haaf hbb hbbr hbbf he)) rfl ?_))))))
 rintro vr O' ⟨N, rfl, rfl, rfl⟩
 refine TO.qm rfl (TO.q (q_extract (vs := _) rfl rfl) (TO.q (q_extract (vs := _) rfl rfl) (TO.l rfl (l_alloc inf107 rfl (fun bx6 => ?_)))))
 refine TO.l rfl (l_sb (v := .pointer none) (vs := [(.pointer none)]) 0 inf107 rfl rfl rfl rfl rfl rfl (by simp [putL]) ?_)
 refine TO.qa rfl (TO.nl (T.s (T.s (T.rg (TO.qm rfl (TO.q (q_neq rfl rfl) (TO.nl ?_)))))))
 refine T.cond1 (congrArg Value.bool (decide_eq_true (by omega))) ?_
 refine T.s (T.rg (TO.q (q_build plan25 inf25 rfl) (TO.qm rfl (TO.l rfl (l_sb (v := (.agg #[(vI 0), (vI 0), nS, nS])) (vs := [(vI 0), (vI 0), nS, nS]) 2 inf25 rfl rfl rfl rfl rfl rfl (by simp [putL]) ?_)))))
 refine TO.l rfl (l_sb (v := vI (wrongD a b : Int)) (vs := [(vI (wrongD a b : Int))]) 1 inf30 rfl rfl rfl rfl rfl rfl (by simp [putL]) ?_)
 refine TO.nl (T.ret (Res.drop ?_))
 refine Res.cell2a (i := 2) (j := 1) Tryz.results71 uT25 rfl inf25 uT30 rfl rfl rfl rfl rfl rfl ?_
 exact ⟨[], Sub.z, rfl, rfl⟩
theorem combineW (w : World) [Tab Tryz.prog w] (a b : DFA) (j k : DK) (ha : At w a j) (hb : At w b k) (va : Valid a) (vb : Valid b) (hv : a.vars = b.vars) (f : Bool → Bool → Bool) (g : Nat) (hf : ∀ (base : World) (x y : Bool), CallV Tryz.prog base (.func (.func g) #[] #[]) [.bool x, .bool y] [] (fun v O' => v = .bool (f x y) ∧ O' = [])) (hN8 : (order (prodD f a b)).length ≤ 4096) :
  PureT Tryz.prog 71 [dV a j, dV b k, .func (.func g) #[] #[]] w fun v N => ∃ k' : DK, v = .tuple #[dV (opD f a b) k', vI 0] ∧ N = [dI 48 4 3 (opD f a b) k'] := by
 refine CallT.enter func71 rfl ntmps71 rfl ?_
 have h4 : a.next.length * b.next.length ≤ 4096 * 4096 := Nat.mul_le_mul va.n4 vb.n4
 obtain ⟨L, hL⟩ : ∃ L, 2 ^ a.vars.toNat = L := ⟨_, rfl⟩
 have hw : L ≤ 64 := by rw [← hL]; exact va.width
 refine T.s (T.rg (TO.l rfl (l_box (v := (dV a j)) (cs := (dC a j)) rfl rfl (fun z1 => ?_))))
 refine TO.l rfl (l_box (v := (dV b k)) (cs := (dC b k)) rfl rfl (fun z2 => ?_))
 refine TO.l rfl (l_box (v := (.func (.func g) #[] #[])) (cs := [(.func (.func g) #[] #[])]) rfl rfl (fun z3 => ?_))
 refine TO.l rfl (l_alloc inf25 rfl (fun z4 => ?_))
 refine TO.l rfl (l_alloc inf30 rfl (fun z5 => ?_))
 refine TO.nl (T.s (T.rg (TO.q (q_la 4 uT25 rfl inf25 rfl rfl rfl) (TO.q (q_la 3 uT25 rfl inf25 rfl rfl rfl) (TO.l rfl (l_call ent95 (CallT.op fun w1 hI => (haveI := tbz hI; beginOk w1 a b j k (hI.atB ha) (hI.atB hb) va vb hv)) rfl ?_))))))
 rintro vr O' ⟨N, rfl, bp, qb, m, rfl, rfl⟩
 refine TO.qm rfl (TO.q (q_extract (vs := _) rfl rfl) (TO.q (q_extract (vs := _) rfl rfl) (TO.l rfl (l_alloc inf107 rfl (fun z6 => ?_)))))
 refine TO.l rfl (l_sb (v := (.pointer (aD bp))) (vs := [(.pointer (aD bp))]) 0 inf107 rfl rfl rfl rfl rfl rfl (by simp [putL]) ?_)
 refine TO.qa rfl (TO.nl (T.s (T.s (T.rg (TO.qm rfl (TO.q (q_neq rfl rfl) (TO.nl (T.cond0 rfl (T.skip (T.s (T.rg (TO.q (q_fa uT25 rfl inf3 rfl rfl) (TO.q (q_lb 8 uT3 rfl rfl rfl rfl) (TO.q (q_build (cs := [(vI a.vars), (vI 0), nS, nS]) plan25 inf25 (by kernel_rfl)) (TO.l rfl (l_alloc inf25 rfl (fun z7 => ?_)))))))))))))))))
 refine TO.l rfl (l_sb (v := (.agg #[(vI a.vars), (vI 0), nS, nS])) (vs := [(vI a.vars), (vI 0), nS, nS]) 0 inf25 rfl rfl rfl rfl rfl rfl (by simp [putL]) ?_)
 refine TO.nl (T.s (T.s (T.nilRow 4 1 ?_)))
 refine T.nilRow 48 1 ?_
 refine T.rg (TO.q (q_lb 3 uT107 rfl rfl rfl rfl) (TO.l rfl (l_call ent96 (CallT.op fun w1 hI => (haveI := tbz hI; pairsF w1 bp)) rfl ?_)))
 rintro vr O' ⟨N, rfl, bP, rfl, rfl⟩
 refine TO.nl (T.block ?_)
 refine T.rangeFunc (first := []) (caps := [(.pointer (aD bP))]) rfl ent109 (fun yl yq yhq => ?_)
 refine CallT.mono (CallT.sub (O' := oI bP 107 [(.pointer (aD bp))] :: oI bp 118 [(vI a.vars), (vI a.start), (.slice j.nb a.next.length j.nc), (.slice j.fb a.final.length j.fc), (vI b.vars), (vI b.start), (.slice k.nb b.next.length k.nc), (.slice k.fb b.final.length k.fc), (.slice (aD qb) ([a.start.toNat * b.next.length + b.start.toNat].length) 1), (.map (some m))] :: rowI (aD qb) 1 114 2 (prs b.next.length [a.start.toNat * b.next.length + b.start.toNat]) :: mapI pairV (fun n : Nat => Value.int .i64 (n : Int)) m (pmap b.next.length [a.start.toNat * b.next.length + b.start.toNat]) :: (objI yl (lp yq none) :: [rowI none 0 48 1 (vals []), rowI none 0 4 1 (bools []), oI z7 25 [(vI a.vars), (vI 0), nS, nS], oI z6 107 [(.pointer (aD bp))], oI z5 30 [(vI 0)], oI z4 25 [(vI 0), (vI 0), nS, nS], oI z3 89 [(.func (.func g) #[] #[])], oI z2 25 (dC b k), oI z1 25 (dC a j)])) (Sub.pick [1, 5, 5, 5, 0, 0, 0, 0, 0, 0, 0, 0, 0, 0] rfl) (pairs1 w f a b j k ha hb va vb hv L hL bP bp m (aD qb) 1 (.func (.yield yl) #[] #[]) (fun i O => ∃ (nbm fbm : Option Addr) (ncm fcm n1 n2 : Nat) (qs : List Rec) (fs : List Bool), O = objI yl (lp yq none) :: ([rowI nbm ncm 48 1 (vals qs), rowI fbm fcm 4 1 (bools fs), oI z7 25 [(vI a.vars), (vI 0), (.slice nbm n1 ncm), (.slice fbm n2 fcm)], oI z6 107 [(.pointer (aD bp))], oI z5 30 [(vI 0)], oI z4 25 [(vI 0), (vI 0), nS, nS], oI z3 89 [(.func (.func g) #[] #[])], oI z2 25 (dC b k), oI z1 25 (dC a j)] ++ (itms 3 qs)) ∧ n1 = i ∧ n2 = i ∧ qs.length = i ∧ fs.length = i ∧ nums qs = ((order (prodD f a b)).take i).map (rnR (prodD f a b)) ∧ fs = ((order (prodD f a b)).take i).map (finN (prodD f a b))) (fun _ => False) ?_ _ ?_)) ?_
 ·intro i o qb qc rb O hq hJ
  obtain ⟨nbm, fbm, ncm, fcm, n1, n2, qs, fs, rfl, hn1, hn2, hql, hfl, hqs, hfs⟩ := hJ
  refine CallV.yield yhq rfl rfl ?_
  refine T.sub (O' := ([rowI nbm ncm 48 1 (vals qs), rowI fbm fcm 4 1 (bools fs), oI z7 25 [(vI a.vars), (vI 0), (.slice nbm n1 ncm), (.slice fbm n2 fcm)], oI z6 107 [(.pointer (aD bp))], oI z5 30 [(vI 0)], oI z4 25 [(vI 0), (vI 0), nS, nS], oI z3 89 [(.func (.func g) #[] #[])], oI z2 25 (dC b k), oI z1 25 (dC a j), oI bp 118 [(vI a.vars), (vI a.start), (.slice j.nb a.next.length j.nc), (.slice j.fb a.final.length j.fc), (vI b.vars), (vI b.start), (.slice k.nb b.next.length k.nc), (.slice k.fb b.final.length k.fc), (.slice qb ((bfsN (prodD f a b) (i + 1)).length) qc), (.map (some m))], rowI qb qc 114 2 (prs b.next.length (bfsN (prodD f a b) (i + 1))), mapI pairV (fun n : Nat => Value.int .i64 (n : Int)) m (pmap b.next.length (bfsN (prodD f a b) (i + 1))), rowI (aD rb) L 3 1 (ints (rnR (prodD f a b) o))] ++ itms 3 qs)) (by exact Sub.swap3 [rowI nbm ncm 48 1 (vals qs), rowI fbm fcm 4 1 (bools fs), oI z7 25 [(vI a.vars), (vI 0), (.slice nbm n1 ncm), (.slice fbm n2 fcm)], oI z6 107 [(.pointer (aD bp))], oI z5 30 [(vI 0)], oI z4 25 [(vI 0), (vI 0), nS, nS], oI z3 89 [(.func (.func g) #[] #[])], oI z2 25 (dC b k), oI z1 25 (dC a j)] _ (itms 3 qs)) ?_
  have hbl := pr_bfs_len (f := f) va vb hv i
  have hil := (List.getElem?_eq_some_iff.1 hq).1
  have ho := (pr_bfs_ok (f := f) va vb hv i).2 o (List.mem_of_getElem? hq)
  obtain ⟨hs, ht⟩ := pr_split ho
  have hoa := bfs_at hq (by rw [prod_len]; omega)
  have hfa : (bools a.final)[o / b.next.length]? = some (.bool (finN a (o / b.next.length))) := by
   have hl : o / b.next.length < a.final.length := by rw [va.fin]; exact hs
   rw [bools_get hl]; unfold finN; rw [List.getD_eq_getElem?_getD, List.getElem?_eq_getElem hl]; rfl
  have hfb : (bools b.final)[o % b.next.length]? = some (.bool (finN b (o % b.next.length))) := by
   have hl : o % b.next.length < b.final.length := by rw [vb.fin]; exact ht
   rw [bools_get hl]; unfold finN; rw [List.getD_eq_getElem?_getD, List.getElem?_eq_getElem hl]; rfl
  have hrl : (rnR (prodD f a b) o).length = L := by unfold rnR; rw [List.length_map, renRow_length]; exact hL
  have hvq : vals (qs ++ [⟨some ⟨rb, 0, none⟩, L, rnR (prodD f a b) o⟩]) = vals qs ++ [.slice (aD rb) L L] := by simp [Rec.val, hrl]
  have hbq : bools (fs ++ [f (finN a (o / b.next.length)) (finN b (o % b.next.length))]) = bools fs ++ [.bool (f (finN a (o / b.next.length)) (finN b (o % b.next.length)))] := by simp
  have hbl2 := pr_bfs_len (f := f) va vb hv (i + 1)
  have hlt9 : (bfsN (prodD f a b) (i + 1)).length ≤ 4096 := Nat.le_trans (bfsN_prefix (prodD f a b) (i + 1) (prodD f a b).next.length (by rw [prod_len]; omega)).length_le hN8
  refine T.s (T.rg (TO.l rfl (l_alloc inf114 rfl (fun z8 => ?_))))
  refine TO.l rfl (l_sb (v := (.agg #[vI ((o / b.next.length : Nat) : Int), vI ((o % b.next.length : Nat) : Int)])) (vs := [vI ((o / b.next.length : Nat) : Int), vI ((o % b.next.length : Nat) : Int)]) 0 inf114 rfl rfl rfl rfl rfl rfl (by simp [putL]) ?_)
  refine TO.nl (T.rg (TO.qa rfl (TO.nl (T.block (T.s (T.s (T.rg (TO.q (q_lb 4 uT107 rfl rfl rfl rfl) (TO.q (q_nilCheck rfl) (TO.q (q_fa uT118 rfl inf115 rfl rfl) (TO.q (q_lb 10 uT115 rfl rfl rfl rfl) (TO.q (q_len uT115 rfl) (TO.q (QT.toB (q_gtr rfl rfl) (decide_eq_false (by omega))) (TO.nl (T.cond0 rfl (T.skip ?_))))))))))))))))
  refine T.draws [oI z8 114 [vI ((o / b.next.length : Nat) : Int), vI ((o % b.next.length : Nat) : Int)], oI z7 25 [(vI a.vars), (vI 0), (.slice nbm n1 ncm), (.slice fbm n2 fcm)], oI z6 107 [(.pointer (aD bp))], oI z5 30 [(vI 0)], oI z4 25 [(vI 0), (vI 0), nS, nS], oI z3 89 [(.func (.func g) #[] #[])], oI z2 25 (dC b k), oI z1 25 (dC a j), oI bp 118 [(vI a.vars), (vI a.start), (.slice j.nb a.next.length j.nc), (.slice j.fb a.final.length j.fc), (vI b.vars), (vI b.start), (.slice k.nb b.next.length k.nc), (.slice k.fb b.final.length k.fc), (.slice qb ((bfsN (prodD f a b) (i + 1)).length) qc), (.map (some m))]] [(0, 0), (1, 0), (2, 0), (5, 0), (6, 0), (7, 0), (8, 0), (9, 0), (10, 0), (11, 0), (12, 0), (13, 0), (14, 0), (15, 0), (16, 0), (17, 0), (18, 0), (19, 0), (3, 1), (4, 1), (23, 0), (20, 1), (21, 1), (22, 1), (24, 2), (25, 2), (26, 2)] mixed (drawF_ok (by kernel_rfl)) (by exact Sub.k (.d (.d (.k (.k (.k (.k (.k (.k (.k (.k .z))))))))))) (fun _ _ _ h => h) ?_
  refine DO.q rfl (q_fa uT25 rfl inf22 rfl rfl) (DO.q rfl (q_lb 1 uT22 rfl rfl rfl rfl) (DO.q rfl (q_move rfl) (DO.q rfl (q_fa uT25 rfl inf23 rfl rfl) (DO.q rfl (q_lb 1 uT23 rfl rfl rfl rfl) (DO.q rfl (q_lb 5 uT89 rfl rfl rfl rfl) (DO.q rfl (q_fa uT25 rfl inf23 rfl rfl) (DO.q rfl (q_lb 7 uT23 rfl rfl rfl rfl) (DO.q rfl (q_fa uT114 rfl inf3 rfl rfl) (DO.q rfl (q_lb 0 uT3 rfl rfl rfl rfl) (DO.q rfl (q_ix (i := (o / b.next.length)) uT23 inf4 rfl rfl (Sl.o ha.final) (by rw [va.fin]; exact hs) (by rw [List.length_map, va.fin]; exact hs)) (DO.q rfl (q_ld uT4 rfl rfl (Sl.o ha.final) hfa) (DO.q rfl (q_fa uT25 rfl inf23 rfl rfl) (DO.q rfl (q_lb 6 uT23 rfl rfl rfl rfl) (DO.q rfl (q_fa uT114 rfl inf3 rfl rfl) (DO.q rfl (q_lb 0 uT3 rfl rfl rfl rfl) (DO.q rfl (q_ix (i := (o % b.next.length)) uT23 inf4 rfl rfl (Sl.o hb.final) (by rw [vb.fin]; exact ht) (by rw [List.length_map, vb.fin]; exact ht)) (DO.q rfl (q_ld uT4 rfl rfl (Sl.o hb.final) hfb) ?_)))))))))))))))))
  refine DO.loud rfl rfl (l_build1 (v := (.slice (aD rb) L L)) uT22 inf48 rfl rfl rfl (fun z9 => ⟨by exact Sub.d (.k (.d (.d (.k (.k (.k (.k (.k (.k (.k (.k .z))))))))))), ?_⟩))
  refine DO.loud rfl rfl (l_append 2 uT22 uT22 inf48 rfl rfl rfl rfl (by simp; omega) (by decide) (Src.row (j := 0) rfl (by simp)) (by simp [oneB]) (by omega) (by decide) (by decide) (fun z10 zc11 => ⟨by exact Sub.d (.k (.d (.d (.k (.k (.k (.k (.k (.k (.k (.k .z))))))))))), ?_⟩))
  refine DO.q rfl (q_fa uT25 rfl inf22 rfl rfl) ?_
  have hk57 := CallV.under (B := ([rowI (aD z9) 1 48 1 [(.slice (aD rb) L L)], oI z8 114 [vI ((o / b.next.length : Nat) : Int), vI ((o % b.next.length : Nat) : Int)], rowI z10 zc11 48 1 ((vals qs) ++ [(.slice (aD rb) L L)]), rowI fbm fcm 4 1 (bools fs), oI z7 25 [(vI a.vars), (vI 0), (.slice nbm n1 ncm), (.slice fbm n2 fcm)], oI z6 107 [(.pointer (aD bp))], oI z5 30 [(vI 0)], oI z4 25 [(vI 0), (vI 0), nS, nS], oI z3 89 [(.func (.func g) #[] #[])], oI z2 25 (dC b k), oI z1 25 (dC a j), oI bp 118 [(vI a.vars), (vI a.start), (.slice j.nb a.next.length j.nc), (.slice j.fb a.final.length j.fc), (vI b.vars), (vI b.start), (.slice k.nb b.next.length k.nc), (.slice k.fb b.final.length k.fc), (.slice qb ((bfsN (prodD f a b) (i + 1)).length) qc), (.map (some m))], rowI qb qc 114 2 (prs b.next.length (bfsN (prodD f a b) (i + 1))), mapI pairV (fun n : Nat => Value.int .i64 (n : Int)) m (pmap b.next.length (bfsN (prodD f a b) (i + 1))), rowI (aD rb) L 3 1 (ints (rnR (prodD f a b) o))] ++ itms 3 qs)) (O := ([rowI (aD z9) 1 48 1 [(.slice (aD rb) L L)], oI z8 114 [vI ((o / b.next.length : Nat) : Int), vI ((o % b.next.length : Nat) : Int)], rowI z10 zc11 48 1 ((vals qs) ++ [(.slice (aD rb) L L)]), rowI fbm fcm 4 1 (bools fs), oI z7 25 [(vI a.vars), (vI 0), (.slice nbm n1 ncm), (.slice fbm n2 fcm)], oI z6 107 [(.pointer (aD bp))], oI z5 30 [(vI 0)], oI z4 25 [(vI 0), (vI 0), nS, nS], oI z3 89 [(.func (.func g) #[] #[])], oI z2 25 (dC b k), oI z1 25 (dC a j), oI bp 118 [(vI a.vars), (vI a.start), (.slice j.nb a.next.length j.nc), (.slice j.fb a.final.length j.fc), (vI b.vars), (vI b.start), (.slice k.nb b.next.length k.nc), (.slice k.fb b.final.length k.fc), (.slice qb ((bfsN (prodD f a b) (i + 1)).length) qc), (.map (some m))], rowI qb qc 114 2 (prs b.next.length (bfsN (prodD f a b) (i + 1))), mapI pairV (fun n : Nat => Value.int .i64 (n : Int)) m (pmap b.next.length (bfsN (prodD f a b) (i + 1))), rowI (aD rb) L 3 1 (ints (rnR (prodD f a b) o))] ++ (itms 3 qs))) (hf w (finN a (o / b.next.length)) (finN b (o % b.next.length))) (by exact Sub.rf)
  refine DO.loud rfl rfl (l_callG hk57 rfl rfl ?_)
  clear hk57
  rintro vr O' ⟨A1, rfl, rfl, rfl⟩
  refine ⟨by exact Sub.d (.k (.d (.d (.k (.k (.k (.k (.k (.k (.k (.k .z))))))))))), ?_⟩
  refine DO.loud rfl rfl (l_build1 (v := .bool (f (finN a (o / b.next.length)) (finN b (o % b.next.length)))) uT23 inf4 rfl rfl rfl (fun z12 => ⟨by exact Sub.d (.d (.k (.d (.d (.k (.k (.k (.k (.k (.k (.k (.k .z)))))))))))), ?_⟩))
  refine DO.loud rfl rfl (l_append 4 uT23 uT23 inf4 rfl rfl rfl rfl (by simp; omega) (by decide) (Src.row (j := 0) rfl (by simp)) (by simp [oneB]) (by omega) (by decide) (by decide) (fun z13 zc14 => ⟨by exact Sub.d (.d (.k (.d (.d (.k (.k (.k (.k (.k (.k (.k (.k .z)))))))))))), ?_⟩))
  refine DO.last rfl rfl (l_sb (v := (.slice z10 (n1 + 1) zc11)) (vs := [(.slice z10 (n1 + 1) zc11)]) 5 inf22 rfl rfl rfl rfl rfl rfl (by simp [putL]) ?_)
  refine DO.last rfl rfl (LT.oq rfl rfl (q_fa uT25 rfl inf23 rfl rfl) ?_)
  refine DO.last rfl rfl (l_sb (v := (.slice z13 (n2 + 1) zc14)) (vs := [(.slice z13 (n2 + 1) zc14)]) 5 inf23 rfl rfl rfl rfl rfl rfl (by simp [putL]) ?_)
  refine DO.sub (O' := ([rowI z10 zc11 48 1 ((vals qs) ++ [(.slice (aD rb) L L)]), rowI z13 zc14 4 1 ((bools fs) ++ [.bool (f (finN a (o / b.next.length)) (finN b (o % b.next.length)))]), oI z7 25 [(vI a.vars), (vI 0), (.slice z10 (n1 + 1) zc11), (.slice z13 (n2 + 1) zc14)], oI z6 107 [(.pointer (aD bp))], oI z5 30 [(vI 0)], oI z4 25 [(vI 0), (vI 0), nS, nS], oI z3 89 [(.func (.func g) #[] #[])], oI z2 25 (dC b k), oI z1 25 (dC a j), rowI (aD rb) L 3 1 (ints (rnR (prodD f a b) o)), oI bp 118 [(vI a.vars), (vI a.start), (.slice j.nb a.next.length j.nc), (.slice j.fb a.final.length j.fc), (vI b.vars), (vI b.start), (.slice k.nb b.next.length k.nc), (.slice k.fb b.final.length k.fc), (.slice qb ((bfsN (prodD f a b) (i + 1)).length) qc), (.map (some m))], rowI qb qc 114 2 (prs b.next.length (bfsN (prodD f a b) (i + 1))), mapI pairV (fun n : Nat => Value.int .i64 (n : Int)) m (pmap b.next.length (bfsN (prodD f a b) (i + 1)))] ++ itms 3 qs)) (by exact Sub.d (.d (.d (.k (.k (.k (.k (.k (.k (.k (.k (.k (.pull [oI bp 118 [(vI a.vars), (vI a.start), (.slice j.nb a.next.length j.nc), (.slice j.fb a.final.length j.fc), (vI b.vars), (vI b.start), (.slice k.nb b.next.length k.nc), (.slice k.fb b.final.length k.fc), (.slice qb ((bfsN (prodD f a b) (i + 1)).length) qc), (.map (some m))], rowI qb qc 114 2 (prs b.next.length (bfsN (prodD f a b) (i + 1))), mapI pairV (fun n : Nat => Value.int .i64 (n : Int)) m (pmap b.next.length (bfsN (prodD f a b) (i + 1)))] _ (.k (.k (.k .rf)))))))))))))))) ?_
  refine DO.sub (O' := (([rowI z10 zc11 48 1 (vals (qs ++ [⟨some ⟨rb, 0, none⟩, L, rnR (prodD f a b) o⟩])), rowI z13 zc14 4 1 (bools (fs ++ [f (finN a (o / b.next.length)) (finN b (o % b.next.length))])), oI z7 25 [(vI a.vars), (vI 0), (.slice z10 (n1 + 1) zc11), (.slice z13 (n2 + 1) zc14)], oI z6 107 [(.pointer (aD bp))], oI z5 30 [(vI 0)], oI z4 25 [(vI 0), (vI 0), nS, nS], oI z3 89 [(.func (.func g) #[] #[])], oI z2 25 (dC b k), oI z1 25 (dC a j)] ++ itms 3 (qs ++ [⟨some ⟨rb, 0, none⟩, L, rnR (prodD f a b) o⟩])) ++ [oI bp 118 [(vI a.vars), (vI a.start), (.slice j.nb a.next.length j.nc), (.slice j.fb a.final.length j.fc), (vI b.vars), (vI b.start), (.slice k.nb b.next.length k.nc), (.slice k.fb b.final.length k.fc), (.slice qb ((bfsN (prodD f a b) (i + 1)).length) qc), (.map (some m))], rowI qb qc 114 2 (prs b.next.length (bfsN (prodD f a b) (i + 1))), mapI pairV (fun n : Nat => Value.int .i64 (n : Int)) m (pmap b.next.length (bfsN (prodD f a b) (i + 1)))])) (by rw [hvq, hbq]; exact Sub.fold [rowI z10 zc11 48 1 ((vals qs) ++ [(.slice (aD rb) L L)]), rowI z13 zc14 4 1 ((bools fs) ++ [.bool (f (finN a (o / b.next.length)) (finN b (o % b.next.length)))]), oI z7 25 [(vI a.vars), (vI 0), (.slice z10 (n1 + 1) zc11), (.slice z13 (n2 + 1) zc14)], oI z6 107 [(.pointer (aD bp))], oI z5 30 [(vI 0)], oI z4 25 [(vI 0), (vI 0), nS, nS], oI z3 89 [(.func (.func g) #[] #[])], oI z2 25 (dC b k), oI z1 25 (dC a j)] (rowI (aD rb) L 3 1 (ints (rnR (prodD f a b) o))) [oI bp 118 [(vI a.vars), (vI a.start), (.slice j.nb a.next.length j.nc), (.slice j.fb a.final.length j.fc), (vI b.vars), (vI b.start), (.slice k.nb b.next.length k.nc), (.slice k.fb b.final.length k.fc), (.slice qb ((bfsN (prodD f a b) (i + 1)).length) qc), (.map (some m))], rowI qb qc 114 2 (prs b.next.length (bfsN (prodD f a b) (i + 1))), mapI pairV (fun n : Nat => Value.int .i64 (n : Int)) m (pmap b.next.length (bfsN (prodD f a b) (i + 1)))] (itms 3 qs) _ (itms_snoc 3 qs ⟨some ⟨rb, 0, none⟩, L, rnR (prodD f a b) o⟩)) ?_
  refine DO.done ?_
  refine .inl ⟨rfl, _, rfl, z10, z13, zc11, zc14, n1 + 1, n2 + 1, qs ++ [⟨some ⟨rb, 0, none⟩, L, rnR (prodD f a b) o⟩], fs ++ [f (finN a (o / b.next.length)) (finN b (o % b.next.length))], rfl, by omega, by omega, by simp [hql], by simp [hfl], ?_, ?_⟩
  ·rw [take_at hoa, List.map_append]
   show List.map Rec.xs (qs ++ [_]) = _
   rw [List.map_append, show List.map Rec.xs qs = _ from hqs]; rfl
  ·rw [take_at hoa, List.map_append, hfs, ← pr_fin_at (f := f) ho]; rfl
 ·refine ⟨none, none, 0, 0, 0, 0, [], [], rfl, rfl, rfl, rfl, rfl, by simp, by simp⟩
 rintro v O' (⟨N, qbF, qcF, O2, rfl, hN, nbm, fbm, ncm, fcm, n1, n2, qs, fs, rfl, hn1, hn2, hql, hfl, hqs, hfs⟩ | hF)
 rotate_left
 ·exact hF.elim
 refine ⟨none, _, rfl, ?_⟩
 refine T.s ?_
 refine T.sub (O' := ([rowI nbm ncm 48 1 (vals qs), rowI fbm fcm 4 1 (bools fs), oI z7 25 [(vI a.vars), (vI 0), (.slice nbm n1 ncm), (.slice fbm n2 fcm)], oI z6 107 [(.pointer (aD bp))], oI z5 30 [(vI 0)], oI z4 25 [(vI 0), (vI 0), nS, nS], oI z3 89 [(.func (.func g) #[] #[])], oI z2 25 (dC b k), oI z1 25 (dC a j)] ++ itms 3 qs)) (Sub.of (List.sublist_append_left _ _)) ?_
 have hor := pr_stop va vb hv hN
 have hol : (order (prodD f a b)).length = N := by rw [hor]; exact hN
 have e1 : nums qs = (renum (prodD f a b)).next := by rw [hqs, ← hol, List.take_length]; exact (renum_rows _).symm
 have e2 : fs = (renum (prodD f a b)).final := by rw [hfs, ← hol, List.take_length]; rfl
 obtain rfl : n1 = (renum (prodD f a b)).next.length := by rw [renum_rows, List.length_map]; omega
 obtain rfl : n2 = (renum (prodD f a b)).final.length := by rw [renum_fins, List.length_map]; omega
 subst e2
 have vD := prod_val (f := f) va.toVal vb.toVal hv
 have vR := renum_fit vD hN8
 refine T.sub (O' := ([rowI nbm ncm 48 1 (vals qs), rowI fbm fcm 4 1 (bools (renum (prodD f a b)).final), oI z7 25 [(vI (renum (prodD f a b)).vars), (vI (renum (prodD f a b)).start), (.slice nbm ((renum (prodD f a b)).next.length) ncm), (.slice fbm ((renum (prodD f a b)).final.length) fcm)], oI z6 107 [(.pointer (aD bp))], oI z5 30 [(vI 0)], oI z4 25 [(vI 0), (vI 0), nS, nS], oI z3 89 [(.func (.func g) #[] #[])], oI z2 25 (dC b k), oI z1 25 (dC a j)] ++ itms 3 qs)) (by exact Sub.rf) ?_
 refine T.rg (TO.q (q_la 2 uT25 rfl inf25 rfl rfl rfl) (TO.l rfl (l_call ent39 (CallT.op fun w1 hI => (haveI := tbz hI; minKE w1 (renum (prodD f a b)) ⟨nbm, ncm, fbm, fcm, qs⟩ (show At w1 (renum (prodD f a b)) ⟨nbm, ncm, fbm, fcm, qs⟩ from ⟨hI.slOf (mG 0 rfl), e1 ▸ hI.recs (fun q hq => List.mem_append_right _ (List.mem_map_of_mem (f := Rec.itm 3) hq)), hI.slOf (mG 1 rfl)⟩) vR (by rw [renum_rows, List.length_map]; exact Nat.lt_of_le_of_lt hN8 (by decide)) (minD_renum vD))) rfl ?_)))
 rintro vr O' ⟨N9, rfl, k', rfl, rfl⟩
 refine TO.q (q_extract (vs := _) rfl rfl) (TO.q (q_extract (vs := _) rfl rfl) (TO.l rfl (l_sb (v := (dV (minD (prodD f a b)) k')) (vs := (dC (minD (prodD f a b)) k')) 6 inf25 rfl rfl rfl rfl rfl rfl (by simp [putL]) ?_)))
 refine TO.l rfl (l_sb (v := vI 0) (vs := [(vI 0)]) 5 inf30 rfl rfl rfl rfl rfl rfl (by simp [putL]) ?_)
 refine TO.nl (T.ret (Res.drop ?_))
 refine Res.cell2a (i := 6) (j := 5) Tryz.results71 uT25 rfl inf25 uT30 rfl rfl rfl rfl rfl rfl ?_
 exact ⟨[dI 48 4 3 (minD (prodD f a b)) k'], (by exact Sub.k .z), k', rfl, rfl⟩
end Go.Proofs.YtnpehjpookcfkaaGreatDoor


namespace Go.Lx
open Go.RowKit
theorem wrongD_self {d : DFA} : wrongD d d = checkD d := by
 unfold wrongD
 by_cases h : checkD d = 0 <;> simp [h]
def InclA (a b : DFA) (r : Option (List Nat)) : Prop := if wrongD a b = 0 then LeastA (opD minusB a b) r else r = none
theorem InclA.unique {a b : DFA} (hn : wrongD a b = 0 → a.next.length * b.next.length ≤ 4096) {r s : Option (List Nat)} (h : InclA a b r) (h2 : InclA a b s) : r = s := by
 unfold InclA at h h2
 by_cases hw : wrongD a b = 0
 ·rw [if_pos hw] at h h2
  obtain ⟨va, vb, hv⟩ := wrongD_zero.1 hw
  exact h.unique (opD_valid va vb hv (hn hw)) h2
 ·rw [if_neg hw] at h h2; rw [h, h2]
theorem InclA.ok {a b : DFA} (hw : wrongD a b = 0) {r : Option (List Nat)} : InclA a b r ↔ LeastA (opD minusB a b) r := by unfold InclA; rw [if_pos hw]
def AllOk : DFA → List DFA → Prop
 | _, [] => True
 | d, x :: l => wrongD d x = 0 → d.next.length * x.next.length ≤ 64 ∧ AllOk (opD andB d x) l
theorem AllOk.at {d : DFA} {l : List DFA} {i : Nat} (h : i < l.length) (ha : AllOk d (l.drop i)) (hw : wrongD d l[i] = 0) : d.next.length * l[i].next.length ≤ 64 ∧ AllOk (opD andB d l[i]) (l.drop (i + 1)) := by
 rw [List.drop_eq_getElem_cons h] at ha
 exact ha hw
abbrev k00 : DK := ⟨none, 0, none, 0, []⟩
theorem T.nilD {P : Program} {r : Option Nat} {base : World} {n : Nat} {c : Code} {Q : Post} {ρ : Env} {O : List Item} (II Bo I : TypeId) (h : T P r base n c Q ρ (dI II Bo I noD k00 :: O)) : T P r base n c Q ρ O :=
 T.nilRow Bo 1 (T.nilRow II 1 (T.pack (φ := nums k00.qs = noD.next) (L := [rowI none 0 II 1 [], rowI none 0 Bo 1 []] ++ []) (M := O) rfl h))
theorem CallT.nilD {P : Program} {base : World} {f : FuncId} {args : List Value} {O : List Item} {R : Value → List Item → Prop} (II Bo I : TypeId) (h : CallT P base f args O R) : CallT P base f args O (fun v O' => ∃ O2, O' = dI II Bo I noD k00 :: O2 ∧ R v O2) :=
 (CallT.addNil II 1 (CallT.addNil Bo 1 h)).packR fun v O' hR => by
  obtain ⟨O2, rfl, O3, rfl, h3⟩ := hR
  exact ⟨nums k00.qs = noD.next, [rowI Option.none 0 II 1 [], rowI Option.none 0 Bo 1 []] ++ [], O3, rfl, rfl, O3, rfl, h3⟩
theorem Sub.foldN (A : List Item) (x : Item) (S S' : List Item) (h : S' = S ++ [x]) : Sub (A ++ S') ((A ++ [x]) ++ S) := by
 have := Sub.fold A x [] S S' h
 rwa [List.append_nil] at this
end Go.Lx


namespace Go.Proofs.YtnpehjpookcfkaaGreatDoor
open Go.Lx Go.RowKit _root_.Go.Proofs.Tryz
set_option maxRecDepth 20000 in
theorem combineA (w : World) [Tab Tryz.prog w] (a b : DFA) (j k : DK) (ha : At w a j) (hb : At w b k) (haa : a.next.length < 9223372036854775807) (haar : ∀ r ∈ a.next, r.length < 9223372036854775807) (haaf : a.final.length < 9223372036854775807) (hbb : b.next.length < 9223372036854775807) (hbbr : ∀ r ∈ b.next, r.length < 9223372036854775807) (hbbf : b.final.length < 9223372036854775807) (f : Bool → Bool → Bool) (g : Nat) (hf : ∀ (base : World) (x y : Bool), CallV Tryz.prog base (.func (.func g) #[] #[]) [.bool x, .bool y] [] (fun v O' => v = .bool (f x y) ∧ O' = [])) (hN : wrongD a b = 0 → (order (prodD f a b)).length ≤ 4096) :
  PureT Tryz.prog 71 [dV a j, dV b k, .func (.func g) #[] #[]] w fun v N => ∃ k' : DK, v = .tuple #[dV (opV f a b) k', vI (wrongD a b : Int)] ∧ N = [dI 48 4 3 (opV f a b) k'] := by
 by_cases he : wrongD a b = 0
 ·obtain ⟨va, vb, hv⟩ := wrongD_zero.1 he
  rw [opV_ok he, he]
  exact combineW w a b j k ha hb va vb hv f g hf (hN he)
 ·rw [opV_bad he]
  refine CallT.dk (g := fun x => .tuple #[x, vI (wrongD a b : Int)]) ((CallT.addNil 48 1 (CallT.addNil 4 1 (combineBad w a b j k ha hb haa haar haaf hbb hbbr hbbf g he))).mono ?_)
  rintro v N ⟨O2, rfl, O3, rfl, rfl, rfl⟩
  exact ⟨none, 0, none, 0, [], rfl, rfl, rfl⟩
theorem notC0 (w : World) [Tab Tryz.prog w] (a : DFA) (j : DK) (ha : At w a j) (haa : a.next.length < 9223372036854775807) (haar : ∀ r ∈ a.next, r.length < 9223372036854775807) (haaf : a.final.length < 9223372036854775807) (hN : wrongD a a = 0 → (order (prodD notB a a)).length ≤ 4096) :
  PureT Tryz.prog 84 [dV a j] w fun v N => ∃ k' : DK, v = .tuple #[dV (opV notB a a) k', vI (wrongD a a : Int)] ∧ N = [dI 48 4 3 (opV notB a a) k'] := by
 refine CallT.enter func84 rfl ntmps84 rfl ?_
 refine T.s (T.rg (TO.l rfl (l_box (v := (dV a j)) (cs := (dC a j)) rfl rfl (fun bx1 => ?_))))
 refine TO.l rfl (l_alloc inf25 rfl (fun bx2 => ?_))
 refine TO.qa rfl (TO.nl (T.s (T.rg (TO.q (q_la 1 uT25 rfl inf25 rfl rfl rfl) (TO.q (q_la 1 uT25 rfl inf25 rfl rfl rfl) (TO.l rfl (l_call ent71 (CallT.op fun w1 hI => (haveI := tbz hI; combineA w1 a a j j (hI.atB ha) (hI.atB ha) haa haar haaf haa haar haaf notB 101 notFV hN)) rfl ?_)))))))
 rintro vr O' ⟨N, rfl, k', rfl, rfl⟩
 refine TO.q (q_extract (vs := _) rfl rfl) (TO.q (q_extract (vs := _) rfl rfl) (TO.l rfl (l_sb (v := (dV (opV notB a a) k')) (vs := (dC (opV notB a a) k')) 1 inf25 rfl rfl rfl rfl rfl rfl (by simp [putL]) ?_)))
 refine TO.qa rfl (TO.nl (T.ret (Res.drop ?_)))
 refine Res.cell1b (vI (wrongD a a : Int)) (i := 1) Tryz.results84 uT25 rfl inf25 rfl rfl rfl rfl ?_
 exact ⟨[dI 48 4 3 (opV notB a a) k'], (by exact Sub.k .z), k', rfl, rfl⟩
theorem notC (w : World) [Tab Tryz.prog w] (a : DFA) (j : DK) (ha : At w a j) (haa : a.next.length < 9223372036854775807) (haar : ∀ r ∈ a.next, r.length < 9223372036854775807) (haaf : a.final.length < 9223372036854775807) :
  PureT Tryz.prog 84 [dV a j] w fun v N => ∃ k' : DK, v = .tuple #[dV (opV notB a a) k', vI (checkD a : Int)] ∧ N = [dI 48 4 3 (opV notB a a) k'] := by
 have h := notC0 w a j ha haa haar haaf (fun hw => by
  have hv := (wrongD_zero.1 hw).1
  exact Nat.le_trans (pr_order_factW hv.toVal hv.toVal rfl hv.toVal rfl (Det.refl a) (Det.refl a)) hv.n4)
 rwa [wrongD_self] at h
theorem andC (w : World) [Tab Tryz.prog w] (a b : DFA) (j k : DK) (ha : At w a j) (hb : At w b k) (haa : a.next.length < 9223372036854775807) (haar : ∀ r ∈ a.next, r.length < 9223372036854775807) (haaf : a.final.length < 9223372036854775807) (hbb : b.next.length < 9223372036854775807) (hbbr : ∀ r ∈ b.next, r.length < 9223372036854775807) (hbbf : b.final.length < 9223372036854775807) (hN : wrongD a b = 0 → (order (prodD andB a b)).length ≤ 4096) :
  PureT Tryz.prog 43 [dV a j, dV b k] w fun v N => ∃ k' : DK, v = .tuple #[dV (opV andB a b) k', vI (wrongD a b : Int)] ∧ N = [dI 48 4 3 (opV andB a b) k'] := by
 refine CallT.enter func43 rfl ntmps43 rfl ?_
 refine T.s (T.rg (TO.l rfl (l_box (v := (dV a j)) (cs := (dC a j)) rfl rfl (fun bx1 => ?_))))
 refine TO.l rfl (l_box (v := (dV b k)) (cs := (dC b k)) rfl rfl (fun bx2 => ?_))
 refine TO.l rfl (l_alloc inf25 rfl (fun bx3 => ?_))
 refine TO.qa rfl (TO.nl (T.s (T.rg (TO.q (q_la 2 uT25 rfl inf25 rfl rfl rfl) (TO.q (q_la 1 uT25 rfl inf25 rfl rfl rfl) (TO.l rfl (l_call ent71 (CallT.op fun w1 hI => (haveI := tbz hI; combineA w1 a b j k (hI.atB ha) (hI.atB hb) haa haar haaf hbb hbbr hbbf andB 72 andFV hN)) rfl ?_)))))))
 rintro vr O' ⟨N, rfl, k', rfl, rfl⟩
 refine TO.q (q_extract (vs := _) rfl rfl) (TO.q (q_extract (vs := _) rfl rfl) (TO.l rfl (l_sb (v := (dV (opV andB a b) k')) (vs := (dC (opV andB a b) k')) 1 inf25 rfl rfl rfl rfl rfl rfl (by simp [putL]) ?_)))
 refine TO.qa rfl (TO.nl (T.ret (Res.drop ?_)))
 refine Res.cell1b (vI (wrongD a b : Int)) (i := 1) Tryz.results43 uT25 rfl inf25 rfl rfl rfl rfl ?_
 exact ⟨[dI 48 4 3 (opV andB a b) k'], (by exact Sub.k .z), k', rfl, rfl⟩
theorem orC (w : World) [Tab Tryz.prog w] (a b : DFA) (j k : DK) (ha : At w a j) (hb : At w b k) (haa : a.next.length < 9223372036854775807) (haar : ∀ r ∈ a.next, r.length < 9223372036854775807) (haaf : a.final.length < 9223372036854775807) (hbb : b.next.length < 9223372036854775807) (hbbr : ∀ r ∈ b.next, r.length < 9223372036854775807) (hbbf : b.final.length < 9223372036854775807) (hN : wrongD a b = 0 → (order (prodD orB a b)).length ≤ 4096) :
  PureT Tryz.prog 54 [dV a j, dV b k] w fun v N => ∃ k' : DK, v = .tuple #[dV (opV orB a b) k', vI (wrongD a b : Int)] ∧ N = [dI 48 4 3 (opV orB a b) k'] := by
 refine CallT.enter func54 rfl ntmps54 rfl ?_
 refine T.s (T.rg (TO.l rfl (l_box (v := (dV a j)) (cs := (dC a j)) rfl rfl (fun bx1 => ?_))))
 refine TO.l rfl (l_box (v := (dV b k)) (cs := (dC b k)) rfl rfl (fun bx2 => ?_))
 refine TO.l rfl (l_alloc inf25 rfl (fun bx3 => ?_))
 refine TO.qa rfl (TO.nl (T.s (T.rg (TO.q (q_la 2 uT25 rfl inf25 rfl rfl rfl) (TO.q (q_la 1 uT25 rfl inf25 rfl rfl rfl) (TO.l rfl (l_call ent71 (CallT.op fun w1 hI => (haveI := tbz hI; combineA w1 a b j k (hI.atB ha) (hI.atB hb) haa haar haaf hbb hbbr hbbf orB 82 orFV hN)) rfl ?_)))))))
 rintro vr O' ⟨N, rfl, k', rfl, rfl⟩
 refine TO.q (q_extract (vs := _) rfl rfl) (TO.q (q_extract (vs := _) rfl rfl) (TO.l rfl (l_sb (v := (dV (opV orB a b) k')) (vs := (dC (opV orB a b) k')) 1 inf25 rfl rfl rfl rfl rfl rfl (by simp [putL]) ?_)))
 refine TO.qa rfl (TO.nl (T.ret (Res.drop ?_)))
 refine Res.cell1b (vI (wrongD a b : Int)) (i := 1) Tryz.results54 uT25 rfl inf25 rfl rfl rfl rfl ?_
 exact ⟨[dI 48 4 3 (opV orB a b) k'], (by exact Sub.k .z), k', rfl, rfl⟩
theorem minusC (w : World) [Tab Tryz.prog w] (a b : DFA) (j k : DK) (ha : At w a j) (hb : At w b k) (haa : a.next.length < 9223372036854775807) (haar : ∀ r ∈ a.next, r.length < 9223372036854775807) (haaf : a.final.length < 9223372036854775807) (hbb : b.next.length < 9223372036854775807) (hbbr : ∀ r ∈ b.next, r.length < 9223372036854775807) (hbbf : b.final.length < 9223372036854775807) (hN : wrongD a b = 0 → (order (prodD minusB a b)).length ≤ 4096) :
  PureT Tryz.prog 45 [dV a j, dV b k] w fun v N => ∃ k' : DK, v = .tuple #[dV (opV minusB a b) k', vI (wrongD a b : Int)] ∧ N = [dI 48 4 3 (opV minusB a b) k'] := by
 refine CallT.enter func45 rfl ntmps45 rfl ?_
 refine T.s (T.rg (TO.l rfl (l_box (v := (dV a j)) (cs := (dC a j)) rfl rfl (fun bx1 => ?_))))
 refine TO.l rfl (l_box (v := (dV b k)) (cs := (dC b k)) rfl rfl (fun bx2 => ?_))
 refine TO.l rfl (l_alloc inf25 rfl (fun bx3 => ?_))
 refine TO.qa rfl (TO.nl (T.s (T.rg (TO.q (q_la 2 uT25 rfl inf25 rfl rfl rfl) (TO.q (q_la 1 uT25 rfl inf25 rfl rfl rfl) (TO.l rfl (l_call ent71 (CallT.op fun w1 hI => (haveI := tbz hI; combineA w1 a b j k (hI.atB ha) (hI.atB hb) haa haar haaf hbb hbbr hbbf minusB 74 minusFV hN)) rfl ?_)))))))
 rintro vr O' ⟨N, rfl, k', rfl, rfl⟩
 refine TO.q (q_extract (vs := _) rfl rfl) (TO.q (q_extract (vs := _) rfl rfl) (TO.l rfl (l_sb (v := (dV (opV minusB a b) k')) (vs := (dC (opV minusB a b) k')) 1 inf25 rfl rfl rfl rfl rfl rfl (by simp [putL]) ?_)))
 refine TO.qa rfl (TO.nl (T.ret (Res.drop ?_)))
 refine Res.cell1b (vI (wrongD a b : Int)) (i := 1) Tryz.results45 uT25 rfl inf25 rfl rfl rfl rfl ?_
 exact ⟨[dI 48 4 3 (opV minusB a b) k'], (by exact Sub.k .z), k', rfl, rfl⟩
end Go.Proofs.YtnpehjpookcfkaaGreatDoor


namespace Go.Proofs.YtnpehjpookcfkaaGreatDoor
open Go.Lx Go.RowKit _root_.Go.Proofs.Tryz
end Go.Proofs.YtnpehjpookcfkaaGreatDoor


namespace Go.Lx
open Go.RowKit
theorem bq_diag {d : DFA} (hv : Val d) {s : Nat} : ∀ i, (∀ j, j < i → j < (bq d s s j).length) → BfsI d s s i (bq d s s i)
  | 0, _ => BfsI.zero d s s
  | i + 1, h => (bq_diag hv i fun j hj => h j (by omega)).step hv (List.getElem?_eq_getElem (h i (by omega)))
theorem BfsI.diag {d : DFA} {s i : Nat} {A : List Stp} (h : BfsI d s s i A) {q : Stp} (hq : q ∈ A) : q.1 = (q.1.1, q.1.1) := by rw [(h.run q hq).2]
abbrev shq (d : DFA) (i : Nat) : List Stp := bq d d.start.toNat d.start.toNat i
def ShR (d : DFA) (res : Option (List Nat)) : Prop :=
  ∃ i, (∀ j, j < i → ∃ q, (shq d j)[j]? = some q ∧ finN d q.1.1 = false) ∧
    match res with
    | some w => ∃ q, (shq d i)[i]? = some q ∧ finN d q.1.1 = true ∧ q.2 = w
    | none => (shq d i).length ≤ i
theorem shq_inv {d : DFA} (hv : Val d) {i : Nat} (h : ∀ j, j < i → ∃ q, (shq d j)[j]? = some q ∧ finN d q.1.1 = false) : BfsI d d.start.toNat d.start.toNat i (shq d i) :=
  bq_diag hv i fun j hj => by obtain ⟨q, hq, _⟩ := h j hj; exact (List.getElem?_eq_some_iff.1 hq).1
theorem ShR.least {d : DFA} (hv : Val d) {res : Option (List Nat)} (h : ShR d res) : LeastA d res := by
  obtain ⟨i, hj, hr⟩ := h
  have hI := shq_inv hv hj
  have hsame : ∀ j q, j < i → (shq d i)[j]? = some q → finN d q.1.1 = false := fun j q hji hq => by
    obtain ⟨q', h1, h2⟩ := hj j hji
    have := bq_get (i := i) h1 (by omega)
    rw [hq] at this; cases this; exact h2
  have key : ∀ u, Wd d u → (∃ q ∈ shq d i, q.1 = (runN d d.start.toNat u, runN d d.start.toNat u) ∧ code q.2 ≤ code u) ∨ ∃ q, (shq d i)[i]? = some q ∧ code q.2 ≤ code u := by
    refine snocInd ?_ ?_
    · intro _
      obtain ⟨q, h1, h2, h3⟩ := hI.first
      exact .inl ⟨q, List.mem_of_getElem? h1, h2, by rw [h3]; exact Nat.le_refl _⟩
    · intro u x ih hw
      rw [code_snoc]
      rcases ih (fun z hz => hw z (by simp [hz])) with ⟨q, h1, h2, h3⟩ | ⟨q, h1, h3⟩
      · obtain ⟨j, hjq⟩ := List.getElem?_of_mem h1
        by_cases hji : j < i
        · obtain ⟨q', g1, g2, g3⟩ := hI.suc j q hji hjq x (hw x (by simp))
          refine .inl ⟨q', g1, ?_, by omega⟩
          rw [g2, runN_snoc, h2]; rfl
        · by_cases e : j = i
          · subst e; exact .inr ⟨q, hjq, by omega⟩
          · have hil : i < (shq d i).length := by have := (List.getElem?_eq_some_iff.1 hjq).1; omega
            have := hI.mono i j _ q (by omega) (List.getElem?_eq_getElem hil) hjq
            exact .inr ⟨_, List.getElem?_eq_getElem hil, by omega⟩
      · exact .inr ⟨q, h1, by omega⟩
  cases res with
  | some w =>
    obtain ⟨q, hq, hf, rfl⟩ := hr
    obtain ⟨h1, h2⟩ := hI.run q (List.mem_of_getElem? hq)
    refine ⟨h1, ?_, ?_⟩
    · unfold acc; rw [h2] at hf; exact hf
    · intro u hu hd
      rcases key u hu with ⟨p, g1, g2, g3⟩ | ⟨p, g1, g3⟩
      · obtain ⟨j, hjp⟩ := List.getElem?_of_mem g1
        by_cases hji : j < i
        · have := hsame j p hji hjp
          rw [g2] at this
          have hd' : finN d (runN d d.start.toNat u) = true := hd
          rw [hd'] at this; cases this
        · by_cases e : j = i
          · subst e; rw [hq] at hjp; cases hjp; exact g3
          · have := hI.mono i j q p (by omega) hq hjp
            omega
      · rw [hq] at g1; cases g1; exact g3
  | none =>
    intro u hu
    have hlen : (shq d i).length ≤ i := hr
    rcases key u hu with ⟨p, g1, g2, g3⟩ | ⟨p, g1, g3⟩
    · obtain ⟨j, hjp⟩ := List.getElem?_of_mem g1
      have hji := (List.getElem?_eq_some_iff.1 hjp).1
      have := hsame j p (by omega) hjp
      rw [g2] at this; exact this
    · have := (List.getElem?_eq_some_iff.1 g1).1; omega
theorem BfsI.states {d : DFA} (hv : Val d) {s i : Nat} (hs : s < d.next.length) {A : List Stp} (h : BfsI d s s i A) : (A.map (·.1.1)).Nodup ∧ ∀ q ∈ A, q.1.1 < d.next.length := by
  refine ⟨?_, fun q hq => ?_⟩
  · have hn := h.nd
    rw [List.nodup_iff_pairwise_ne, List.pairwise_map] at hn ⊢
    exact hn.imp_of_mem fun ha hb hne e => hne (by rw [h.diag ha, h.diag hb, e])
  · obtain ⟨h1, h2⟩ := h.run q hq
    rw [h2]; exact runN_lt hv hs q.2 h1
theorem BfsI.size {d : DFA} (hv : Val d) {s i : Nat} (hs : s < d.next.length) {A : List Stp} (h : BfsI d s s i A) : A.length ≤ d.next.length := by
  obtain ⟨h1, h2⟩ := h.states hv hs
  have := nodup_bound (n := d.next.length) h1 fun x hx => by
    obtain ⟨q, hq, rfl⟩ := List.mem_map.1 hx
    exact h2 q hq
  simpa using this
def Ds (d : DFA) (s k : Nat) : Prop := (∃ u, Wd d u ∧ u.length = k ∧ finN d (runN d s u) = true) ∧ ∀ u, Wd d u → finN d (runN d s u) = true → k ≤ u.length
theorem Ds.unique {d : DFA} {s k m : Nat} (h : Ds d s k) (h2 : Ds d s m) : k = m := by
  obtain ⟨u, hu, e, hf⟩ := h.1
  obtain ⟨x, hx, e2, hf2⟩ := h2.1
  have a := h.2 x hx hf2
  have b := h2.2 u hu hf
  omega
theorem Ds.some {d : DFA} {s : Nat} : ∀ (m : Nat) (u : List Nat), Wd d u → finN d (runN d s u) = true → u.length ≤ m → ∃ k, k ≤ u.length ∧ Ds d s k
  | 0, u, hu, hf, h0 => ⟨0, by omega, ⟨u, hu, by omega, hf⟩, fun _ _ _ => Nat.zero_le _⟩
  | m + 1, u, hu, hf, hl => by
    by_cases h : ∃ x, Wd d x ∧ finN d (runN d s x) = true ∧ x.length < u.length
    · obtain ⟨x, hx, hxf, hxl⟩ := h
      obtain ⟨k, hk, hD⟩ := Ds.some m x hx hxf (by omega)
      exact ⟨k, by omega, hD⟩
    · exact ⟨u.length, Nat.le_refl _, ⟨u, hu, rfl, hf⟩, fun x hx hxf => by
        refine Classical.byContradiction fun hlt => h ⟨x, hx, hxf, by omega⟩⟩
theorem Wd.cons {d : DFA} {x : Nat} {u : List Nat} : Wd d (x :: u) ↔ x < letN d ∧ Wd d u := by unfold Wd; simp
theorem Ds.down {d : DFA} {s k : Nat} (h : Ds d s (k + 1)) : ∃ x, x < letN d ∧ Ds d (toN d s x) k := by
  obtain ⟨u, hu, e, hf⟩ := h.1
  cases u with
  | nil => simp at e
  | cons x u =>
    obtain ⟨hx, hu⟩ := Wd.cons.1 hu
    refine ⟨x, hx, ⟨u, hu, by simpa using e, hf⟩, fun y hy hyf => ?_⟩
    have := h.2 (x :: y) (Wd.cons.2 ⟨hx, hy⟩) hyf
    simpa using this
theorem Ds.up {d : DFA} {s k x : Nat} (hx : x < letN d) (h : Ds d (toN d s x) k) (hn : ∀ m, m ≤ k → ¬ Ds d s m) : Ds d s (k + 1) := by
  obtain ⟨u, hu, e, hf⟩ := h.1
  refine ⟨⟨x :: u, Wd.cons.2 ⟨hx, hu⟩, by simp [e], hf⟩, fun y hy hyf => ?_⟩
  obtain ⟨m, hm, hD⟩ := Ds.some y.length y hy hyf (Nat.le_refl _)
  refine Classical.byContradiction fun hlt => hn m (by omega) hD
theorem Ds.lt {d : DFA} (hv : Val d) {s k : Nat} (hs : s < d.next.length) (h : Ds d s k) : k < d.next.length := by
  obtain ⟨u, hu, e, hf⟩ := h.1
  have htk : ∀ i, Wd d (u.take i) := fun i x hx => hu x (List.mem_of_mem_take hx)
  have hinj : ∀ i j, i < j → j ≤ k → runN d s (u.take i) ≠ runN d s (u.take j) := fun i j hij hjk hr => by
    have h1 : runN d s (u.take i ++ u.drop j) = runN d s u := by
      rw [runN_append, hr, ← runN_append, List.take_append_drop]
    have := h.2 (u.take i ++ u.drop j) (fun x hx => (List.mem_append.1 hx).elim (htk i x) fun h => hu x (List.mem_of_mem_drop h)) (by rw [h1]; exact hf)
    rw [List.length_append, List.length_take, List.length_drop] at this
    omega
  have hn : ((List.range (k + 1)).map fun i => runN d s (u.take i)).Nodup := map_nodup List.nodup_range fun a ha b hb e => by
    rw [List.mem_range] at ha hb
    rcases Nat.lt_trichotomy a b with h1 | h1 | h1
    · exact absurd e (hinj a b h1 (by omega))
    · exact h1
    · exact absurd e.symm (hinj b a h1 (by omega))
  have := nodup_bound (n := d.next.length) hn fun x hx => by
    obtain ⟨i, _, rfl⟩ := List.mem_map.1 hx
    exact runN_lt hv hs _ (htk i)
  simp at this; omega
def lnN (d : DFA) : Nat → Nat → Int
  | 0, s => if finN d s = true then 0 else -1
  | n + 1, s => if lnN d n s < 0 ∧ ((List.range (letN d)).any fun x => decide (lnN d n (toN d s x) = (n : Int))) = true then ((n + 1 : Nat) : Int) else lnN d n s
theorem lnN_spec {d : DFA} : ∀ n s, (∃ k, k ≤ n ∧ Ds d s k ∧ lnN d n s = (k : Int)) ∨ ((∀ k, k ≤ n → ¬ Ds d s k) ∧ lnN d n s = -1)
  | 0, s => by
    by_cases hf : finN d s = true
    · exact .inl ⟨0, Nat.le_refl _, ⟨⟨[], fun x hx => (by cases hx), rfl, hf⟩, fun _ _ _ => Nat.zero_le _⟩, by simp [lnN, hf]⟩
    · refine .inr ⟨fun k hk hD => hf ?_, by simp [lnN, hf]⟩
      obtain ⟨u, hu, e, hf⟩ := hD.1
      have : u = [] := List.eq_nil_of_length_eq_zero (by omega)
      subst this; exact hf
  | n + 1, s => by
    rcases lnN_spec (d := d) n s with ⟨k, hk, hD, e⟩ | ⟨hno, e⟩
    · refine .inl ⟨k, by omega, hD, ?_⟩
      rw [lnN, if_neg (by rw [e]; omega), e]
    · by_cases h : ((List.range (letN d)).any fun x => decide (lnN d n (toN d s x) = (n : Int))) = true
      · refine .inl ⟨n + 1, Nat.le_refl _, ?_, by rw [lnN, if_pos ⟨by rw [e]; omega, h⟩]⟩
        obtain ⟨x, hx, hxe⟩ := List.any_eq_true.1 h
        rw [List.mem_range] at hx
        have hxe := of_decide_eq_true hxe
        rcases lnN_spec (d := d) n (toN d s x) with ⟨k, hk, hD, e2⟩ | ⟨_, e2⟩
        · have : k = n := by rw [hxe] at e2; omega
          subst this
          exact Ds.up hx hD hno
        · rw [hxe] at e2; omega
      · refine .inr ⟨fun k hk hD => ?_, by rw [lnN, if_neg (fun hh => h hh.2), e]⟩
        by_cases ek : k ≤ n
        · exact hno k ek hD
        · have : k = n + 1 := by omega
          subst this
          obtain ⟨x, hx, hDx⟩ := hD.down
          refine h (List.any_eq_true.2 ⟨x, List.mem_range.2 hx, decide_eq_true ?_⟩)
          rcases lnN_spec (d := d) n (toN d s x) with ⟨k, hk, hD2, e2⟩ | ⟨hn2, e2⟩
          · rw [e2, hD2.unique hDx]
          · exact absurd hDx (hn2 n (Nat.le_refl _))
def lnD (d : DFA) (s : Nat) : Int := lnN d (d.next.length - 1) s
theorem lnD_iff {d : DFA} (hv : Val d) {s k : Nat} (hs : s < d.next.length) : lnD d s = (k : Int) ↔ Ds d s k := by
  unfold lnD
  rcases lnN_spec (d := d) (d.next.length - 1) s with ⟨m, hm, hD, e⟩ | ⟨hno, e⟩
  · rw [e]
    exact ⟨fun h => by have : m = k := by omega
                       subst this; exact hD, fun h => by rw [hD.unique h]⟩
  · rw [e]
    exact ⟨fun h => by omega, fun h => absurd h (hno k (by have := h.lt hv hs; omega))⟩
theorem lnD_neg {d : DFA} (hv : Val d) {s : Nat} (hs : s < d.next.length) : (∃ k : Nat, lnD d s = (k : Int)) ∨ (lnD d s = -1 ∧ ∀ u, Wd d u → finN d (runN d s u) = false) := by
  unfold lnD
  rcases lnN_spec (d := d) (d.next.length - 1) s with ⟨m, hm, hD, e⟩ | ⟨hno, e⟩
  · exact .inl ⟨m, e⟩
  · refine .inr ⟨e, fun u hu => ?_⟩
    cases hf : finN d (runN d s u) with
    | false => rfl
    | true =>
      obtain ⟨k, hk, hD⟩ := Ds.some u.length u hu hf (Nat.le_refl _)
      exact absurd hD (hno k (by have := hD.lt hv hs; omega))
structure GI (d : DFA) (K : Nat) (w : List Nat) (s : Nat) : Prop where
  wd : Wd d w
  run : runN d d.start.toNat w = s
  len : w.length ≤ K
  dist : Ds d s (K - w.length)
  le : ∀ u, Wd d u → acc d u = true → u.length = K → code w ≤ code (u.take w.length)
theorem GI.zero {d : DFA} {K : Nat} (h : Ds d d.start.toNat K) : GI d K [] d.start.toNat := ⟨fun x hx => (by cases hx), rfl, Nat.zero_le _, by simpa using h, fun u _ _ _ => by simp [code]⟩
theorem GI.step {d : DFA} (hv : Val d) {K : Nat} {w : List Nat} {s x : Nat} (h : GI d K w s) (hl : w.length < K) (hx : x < letN d) (hD : Ds d (toN d s x) (K - w.length - 1)) (hmin : ∀ y, y < x → ¬ Ds d (toN d s y) (K - w.length - 1)) : GI d K (w ++ [x]) (toN d s x) := by
  have hwx : Wd d (w ++ [x]) := fun y hy => (List.mem_append.1 hy).elim (h.wd y) fun hy => by rw [List.mem_singleton.1 hy]; exact hx
  refine ⟨hwx, by rw [runN_snoc, h.run], by simp; omega, by simpa [Nat.sub_sub] using hD, fun u hu ha hul => ?_⟩
  have hlu : w.length < u.length := by omega
  rw [List.length_append, List.length_singleton, List.take_succ_eq_append_getElem hlu, code_snoc, code_snoc]
  have h1 := h.le u hu ha hul
  have hy := hu _ (List.getElem_mem hlu)
  have hx64 : x < 64 := by have := hv.width; unfold letN at hx; omega
  by_cases e : code w = code (u.take w.length)
  · have htk : Wd d (u.take w.length) := fun x hx => hu x (List.mem_of_mem_take hx)
    have ew := code_inj w (u.take w.length) (hv.wd64 h.wd) (hv.wd64 htk) e
    have hge : x ≤ u[w.length] := by
      refine Classical.byContradiction fun hlt => hmin u[w.length] (by omega) ?_
      have hdr : u = (u.take w.length ++ [u[w.length]]) ++ u.drop (w.length + 1) := by
        rw [← List.take_succ_eq_append_getElem hlu, List.take_append_drop]
      have hrun : runN d d.start.toNat u = runN d (toN d s u[w.length]) (u.drop (w.length + 1)) := by
        conv => lhs; rw [hdr]
        rw [runN_append, runN_snoc, ← ew, h.run]
      have hwdr : Wd d (u.drop (w.length + 1)) := fun x hx => hu x (List.mem_of_mem_drop hx)
      have hf : finN d (runN d (toN d s u[w.length]) (u.drop (w.length + 1))) = true := by rw [← hrun]; exact ha
      refine ⟨⟨u.drop (w.length + 1), hwdr, by rw [List.length_drop]; omega, hf⟩, fun y' hy' hyf => ?_⟩
      have := h.dist.2 (u[w.length] :: y') (Wd.cons.2 ⟨hy, hy'⟩) hyf
      simp at this; omega
    omega
  · omega
theorem GI.least {d : DFA} (hv : Val d) {w : List Nat} {s : Nat} (h : GI d w.length w s) (hK : Ds d d.start.toNat w.length) : LeastA d (some w) := by
  have h0 := h.dist
  rw [Nat.sub_self] at h0
  obtain ⟨u, _, e, hf⟩ := h0.1
  have : u = [] := List.eq_nil_of_length_eq_zero e
  subst this
  have hacc : acc d w = true := by unfold acc; rw [h.run]; exact hf
  refine ⟨h.wd, hacc, fun u hu ha => ?_⟩
  have hl := hK.2 u hu ha
  by_cases e : u.length = w.length
  · have := h.le u hu ha e
    rwa [List.take_of_length_le (by omega)] at this
  · refine Classical.byContradiction fun hlt => ?_
    have := code_len u w (hv.wd64 hu) (hv.wd64 h.wd) (by omega)
    omega
theorem GI.next {d : DFA} {K : Nat} {w : List Nat} {s : Nat} (h : GI d K w s) (hl : w.length < K) : ∃ x, x < letN d ∧ Ds d (toN d s x) (K - w.length - 1) := by
  have := h.dist
  rw [show K - w.length = (K - w.length - 1) + 1 by omega] at this
  exact this.down
end Go.Lx


namespace Go.Lx
open Go.RowKit
def QRec.cel (q : QRec) : List Value := [.int .i64 ((q.p.1 : Nat) : Int), .slice q.b q.xs.length q.c]
abbrev rcells (rs : List QRec) : List Value := rs.flatMap QRec.cel
theorem rcells_len : ∀ rs : List QRec, (rcells rs).length = rs.length * 2
 | [] => rfl
 | q :: rs => by
  have := rcells_len rs
  simp only [rcells] at this
  simp only [rcells, List.flatMap_cons, List.length_append, this, List.length_cons, QRec.cel, List.length_nil]
  omega
def seenB (d : DFA) (A : List Stp) : List Bool := (List.range d.next.length).map fun t => decide ((t, t) ∈ A.map Prod.fst)
theorem seenB_len (d : DFA) (A : List Stp) : (seenB d A).length = d.next.length := by simp [seenB]
theorem seenB_at {d : DFA} {A : List Stp} {t : Nat} (h : t < d.next.length) : (bools (seenB d A))[t]? = some (.bool (decide ((t, t) ∈ A.map Prod.fst))) := by
 rw [List.getElem?_map, seenB, List.getElem?_map, List.getElem?_range h]; rfl
theorem seenB_set {d : DFA} {A : List Stp} {t : Nat} (w : List Nat) : (seenB d A).set t true = seenB d (A ++ [((t, t), w)]) := by
 apply List.ext_getElem?
 intro i
 by_cases hi : i < d.next.length
 ·by_cases e : t = i
  ·subst e
   rw [List.getElem?_set_self (by rw [seenB_len]; exact hi), seenB, List.getElem?_map, List.getElem?_range hi]
   simp
  ·rw [List.getElem?_set_ne e, seenB, seenB, List.getElem?_map, List.getElem?_map, List.getElem?_range hi]
   have e' : ¬ i = t := fun h => e h.symm
   simp [e']
 ·rw [List.getElem?_eq_none (by rw [List.length_set, seenB_len]; omega), List.getElem?_eq_none (by rw [seenB_len]; omega)]
theorem seenB_put {d : DFA} {A : List Stp} {t : Nat} (w : List Nat) (h : t < d.next.length) : putL (bools (seenB d A)) t [.bool true] = bools (seenB d (A ++ [((t, t), w)])) := by
 rw [← seenB_set]; simp [putL]
theorem seenB_zero (d : DFA) : bools (seenB d []) = List.replicate d.next.length (.bool false) := by
 apply List.ext_getElem?
 intro i
 by_cases hi : i < d.next.length
 ·rw [seenB_at hi, List.getElem?_replicate, if_pos hi]; simp
 ·rw [List.getElem?_eq_none (by rw [List.length_map, seenB_len]; omega), List.getElem?_replicate, if_neg hi]
theorem sho_mid {d : DFA} (hv : Val d) {i : Nat} {q : Stp} (h : ∀ j, j < i → ∃ q, (shq d j)[j]? = some q ∧ finN d q.1.1 = false) (hq : (shq d i)[i]? = some q) {x : Nat} (hx : x ≤ letN d) :
  (pushN d q (shq d i) x).length ≤ d.next.length ∧ q.1 = (q.1.1, q.1.1) ∧ q.1.1 < d.next.length ∧ q.2.length ≤ i ∧ i < d.next.length ∧ i < (pushN d q (shq d i) x).length := by
 have hI := shq_inv hv h
 have hs := start_lt hv
 have hm := hI.mid hq x hx
 have hd : ∀ r ∈ pushN d q (shq d i) x, r.1 = (r.1.1, r.1.1) ∧ r.1.1 < d.next.length := fun r hr => by
  obtain ⟨h1, h2⟩ := hm.run r hr
  exact ⟨by rw [h2], by rw [h2]; exact runN_lt hv hs _ h1⟩
 have hnd : ((pushN d q (shq d i) x).map (·.1.1)).Nodup := by
  have hn := hm.nd
  rw [List.nodup_iff_pairwise_ne, List.pairwise_map] at hn ⊢
  exact hn.imp_of_mem fun ha hb hne e => hne (by rw [(hd _ ha).1, (hd _ hb).1, e])
 have hl := nodup_bound (n := d.next.length) hnd fun y hy => by
  obtain ⟨r, hr, rfl⟩ := List.mem_map.1 hy
  exact (hd r hr).2
 rw [List.length_map] at hl
 have hil := (List.getElem?_eq_some_iff.1 hm.at_).1
 have := hd q (List.mem_of_getElem? hm.at_)
 exact ⟨hl, this.1, this.2, bq_wlen d _ _ i q (List.mem_of_getElem? hq), by omega, hil⟩
def ShoV (E : TypeId) (e : Nat) (v : Value) (N : List Item) : Option (List Nat) → Prop
 | some u => ∃ b c, v = .tuple #[.slice b u.length c, .bool true, .int .i64 (e : Int)] ∧ N = [rowI b c E 1 (byts u)]
 | none => v = .tuple #[.slice none 0 0, .bool false, .int .i64 (e : Int)] ∧ N = []
end Go.Lx


namespace Go.Proofs.YtnpehjpookcfkaaGreatDoor
open Go.Lx Go.RowKit _root_.Go.Proofs.Tryz
theorem shoOk (w : World) [Tab Tryz.prog w] (a : DFA) (k : DK) (ha : At w a k) (hv : Valid a) :
  PureT Tryz.prog 73 [dV a k] w fun v N => ∃ res, LeastA a res ∧ ShoV 5 0 v N res := by
 refine CallT.enter func73 rfl ntmps73 rfl ?_
 have he := checkD_zero.2 hv
 have haa : a.next.length < 9223372036854775807 := by have := hv.n4; omega
 have haar : ∀ r ∈ a.next, r.length < 9223372036854775807 := hv.bound
 have haaf : a.final.length < 9223372036854775807 := by have := hv.fin; omega
 have h4 := hv.n4
 have hww := hv.width
 have hsl := start_lt hv.toVal
 have hs0 := hv.s0
 have hs1 := hv.s1
 have hvl := ha.rows.1
 have hfin := hv.fin
 refine T.s (T.rg (TO.l rfl (l_box (v := (dV a k)) (cs := (dC a k)) rfl rfl (fun z1 => ?_))))
 refine TO.qa rfl (TO.qa rfl (TO.qa rfl (TO.nl (T.s (T.s (T.rg (TO.q (q_la 0 uT25 rfl inf25 rfl rfl rfl) (TO.l rfl (l_call ent33 (CallT.op fun w1 hI => (haveI := tbz hI; subsetCheck w1 a k.nb k.fb k.nc k.fc (vals k.qs) (hI.dfa ha) haa haar haaf)) rfl ?_)))))))))
 rintro vr O' ⟨N, rfl, rfl, rfl⟩
 rw [he]
 refine TO.qa rfl (TO.nl (T.s (T.rg (TO.qm rfl (TO.q (q_neq rfl rfl) (TO.nl (T.cond0 rfl (T.skip (T.s (T.rg (TO.q (q_fa uT25 rfl inf22 rfl rfl) (TO.q (q_lb 0 uT22 rfl rfl rfl rfl) (TO.q (q_len uT22 rfl) (TO.l rfl (l_makeSlice (m := a.next.length) uT23 inf4 rfl rfl (by omega) (by omega) (fun z2 => ?_))))))))))))))))
 refine TO.qa rfl (TO.nl (T.s (T.rg (TO.qm rfl (TO.q (q_fa uT25 rfl inf3 rfl rfl) (TO.q (q_lb 1 uT3 rfl rfl rfl rfl) (TO.q (q_ixz (i := a.start) uT23 inf4 rfl rfl (rowO (mG 0 rfl)) (by first | assumption | omega) (by omega) (by rw [List.length_replicate]; omega)) (TO.l rfl (l_st (j := a.start.toNat) (v := .bool true) (vs := [(.bool true)]) (cs := List.replicate a.next.length (.bool false)) 0 inf4 rfl rfl rfl rfl rfl (by simp) rfl (by rw [List.length_replicate]; simp; omega) ?_)))))))))
 refine TO.sub (O' := [rowI (aD z2) a.next.length 4 1 (bools (seenB a (shq a 0))), oI z1 25 (dC a k)]) (by rw [show putL (List.replicate a.next.length (.bool false)) a.start.toNat [(.bool true)] = bools (seenB a (shq a 0)) from (by rw [← seenB_zero]; exact seenB_put [] hsl)]; exact Sub.of (List.Sublist.refl _)) ?_
 refine TO.nl (T.s (T.s (T.rg (TO.q (q_fa uT25 rfl inf3 rfl rfl) (TO.q (q_lb 1 uT3 rfl rfl rfl rfl) (TO.q (q_build (cs := [(vI a.start), nS]) plan120 inf120 (by kernel_rfl)) (TO.l rfl (l_buildSlice (m := 1) (parts := [(0, _)]) (cs := [(vI a.start), nS]) uT121 inf120 (by decide) (by kernel_rfl) rfl (fun z3 => ?_)))))))))
 refine TO.qa rfl (TO.nl (T.nilRow 5 1 ?_))
 refine T.sub (O' := [rowI (aD z3) 1 120 2 [(vI a.start), nS], rowI (aD z2) a.next.length 4 1 (bools (seenB a (shq a 0))), oI z1 25 (dC a k), rowI none 0 5 1 []]) (by exact Sub.pull [rowI none 0 5 1 []] _ (.pull [rowI none 0 5 1 []] _ (.pull [rowI none 0 5 1 []] _ (.k .z)))) ?_
 refine T.sub (O' := ([rowI (aD z3) 1 120 2 (rcells [⟨(a.start.toNat, a.start.toNat), none, 0, []⟩]), rowI (aD z2) a.next.length 4 1 (bools (seenB a (shq a 0))), oI z1 25 (dC a k)] ++ qitms 5 [⟨(a.start.toNat, a.start.toNat), none, 0, []⟩])) (by rw [show rcells [⟨(a.start.toNat, a.start.toNat), none, 0, []⟩] = [vI ((a.start.toNat : Nat) : Int), nS] from rfl, show ((a.start.toNat : Nat) : Int) = a.start from Int.toNat_of_nonneg hs0]; exact Sub.rf) ?_
 refine T.block ?_
 refine T.loop (fun (i : Nat) ρ O => ∃ (qb : Option Addr) (qc m : Nat) (rs : List QRec), O = ([rowI qb qc 120 2 (rcells rs), rowI (aD z2) a.next.length 4 1 (bools (seenB a (shq a i))), oI z1 25 (dC a k)] ++ (qitms 5 rs)) ∧ m = rs.length ∧ rs.map QRec.stp = (shq a i).drop i ∧ (∀ j, j < i → ∃ q, (shq a j)[j]? = some q ∧ finN a q.1.1 = false) ∧ Heads [(0, (dV a k)), (1, (.pointer (aD z1))), (5, vI 0), (6, (.slice (aD z2) a.next.length a.next.length)), (7, (.slice qb m qc))] ρ) (fun i => a.next.length - i) 0 ?_ ?_
 ·exact ⟨_, _, 1, [⟨(a.start.toNat, a.start.toNat), none, 0, []⟩], rfl, rfl, rfl, fun j hj => absurd hj (by omega), (.of rfl)⟩
 rintro i ρ O ⟨qb, qc, m, rs, rfl, hm, hrs, hj, hH⟩
 obtain ⟨ρ0, rfl⟩ := hH.elim
 clear hH
 refine T.s (T.s (T.rg (TO.qm rfl (TO.q (q_len uT121 rfl) (TO.q (q_gtr rfl rfl) (TO.nl (T.condP rfl (fun hc => ?_) (fun hc => ?_))))))))
 ·have hlt30 : m > 0 := by omega
  refine T.skip (T.s (T.block (T.s ?_)))
  obtain ⟨q0, rest, rfl⟩ : ∃ q0 rest, rs = q0 :: rest := by
   cases rs with
   | nil => subst hm; exact absurd hc (by simp)
   | cons a l => exact ⟨a, l, rfl⟩
  obtain ⟨m, rfl⟩ : ∃ k, m = k + 1 := ⟨rest.length, hm⟩
  have hm : m = rest.length := by simpa using hm
  have hq0 : (shq a i)[i]? = some q0.stp := by
   have := congrArg List.head? hrs
   rw [List.head?_drop] at this
   simpa using this.symm
  have hmid := fun x (hx : x ≤ letN a) => sho_mid hv.toVal hj hq0 hx
  have hpd : q0.p = (q0.p.1, q0.p.1) := (hmid 0 (Nat.zero_le _)).2.1
  have hp1 : q0.p.1 < a.next.length := (hmid 0 (Nat.zero_le _)).2.2.1
  have hwl : q0.xs.length ≤ i := (hmid 0 (Nat.zero_le _)).2.2.2.1
  have hi9 := (hmid 0 (Nat.zero_le _)).2.2.2.2.1
  have hf1 : q0.p.1 < a.final.length := by omega
  obtain ⟨vb1, vc1, g1, s1⟩ := ha.rows.get hp1
  have hl1 : a.next[q0.p.1].length = 2 ^ a.vars.toNat := hv.len _ (List.getElem_mem hp1)
  refine T.rg (TO.qm rfl (TO.q (q_ixK (i := 0) uT121 inf120 rfl rfl (rowO (mG 0 rfl)) (by omega) (by rw [rcells_len]; simp)) (TO.q (q_ldK (vs := [(vI ((q0.p.1 : Nat) : Int)), (.slice q0.b q0.xs.length q0.c)]) uT120 rfl inf120 rfl rfl (Nat.succ_pos _) (rowO (mG 0 rfl)) (by intro j hj; match j, hj with | 0, _ => rfl | 1, _ => rfl)) (TO.l rfl (l_alloc inf120 rfl (fun z4 => ?_))))))
  refine TO.l rfl (l_sb (v := (.agg #[(vI ((q0.p.1 : Nat) : Int)), (.slice q0.b q0.xs.length q0.c)])) (vs := [(vI ((q0.p.1 : Nat) : Int)), (.slice q0.b q0.xs.length q0.c)]) 0 inf120 rfl rfl rfl rfl rfl rfl (by simp [putL]) ?_)
  refine TO.nl (T.s (T.s (T.rg (TO.q (q_fa uT25 rfl inf23 rfl rfl) (TO.q (q_lb 3 uT23 rfl rfl rfl rfl) (TO.q (q_fa uT120 rfl inf3 rfl rfl) (TO.q (q_lb 0 uT3 rfl rfl rfl rfl) (TO.q (q_ix (i := q0.p.1) uT23 inf4 rfl rfl (Sl.o ha.final) hf1 (by rw [List.length_map]; exact hf1)) (TO.q (q_ld uT4 rfl rfl (Sl.o ha.final) (bools_get hf1)) (TO.nl (T.cond rfl (fun hc => ?_) (fun hc => ?_))))))))))))
  ·have hne : finN a q0.p.1 = true := by simpa [finN, hf1] using hc
   refine T.s (T.rg (TO.q (q_fa uT120 rfl inf34 rfl rfl) (TO.q (q_lb 0 uT34 rfl rfl rfl rfl) (TO.qa rfl (TO.qa rfl (TO.qa rfl (TO.nl (T.ret (Res.drop ?_)))))))))
   refine Res.three (.slice q0.b q0.xs.length q0.c) (.bool true) (vI 0) Tryz.results73 rfl rfl rfl ?_
   exact ⟨[QRec.itm 5 q0], (by show Sub _ ([oI z4 120 [(vI ((q0.p.1 : Nat) : Int)), (.slice q0.b q0.xs.length q0.c)], rowI qb qc 120 2 (rcells (q0 :: rest)), rowI (aD z2) a.next.length 4 1 (bools (seenB a (shq a i))), oI z1 25 (dC a k)] ++ qitms 5 (q0 :: rest)); exact Sub.appL [oI z4 120 [(vI ((q0.p.1 : Nat) : Int)), (.slice q0.b q0.xs.length q0.c)], rowI qb qc 120 2 (rcells (q0 :: rest)), rowI (aD z2) a.next.length 4 1 (bools (seenB a (shq a i))), oI z1 25 (dC a k)] (Sub.k Sub.z)), some q0.xs, ShR.least hv.toVal ⟨i, hj, q0.stp, hq0, hne, rfl⟩, q0.b, q0.c, rfl, rfl⟩
  have heq : finN a q0.p.1 = false := by simpa [finN, hf1] using hc
  refine T.skip (T.s (T.rg (TO.q (q_fa uT25 rfl inf22 rfl rfl) (TO.q (q_lb 3 uT22 rfl rfl rfl rfl) (TO.q (q_fa uT120 rfl inf3 rfl rfl) (TO.q (q_lb 0 uT3 rfl rfl rfl rfl) (TO.q (q_ix (i := q0.p.1) uT22 inf48 rfl rfl (Sl.o ha.outer) hp1 (hvl ▸ hp1)) (TO.q (q_ld uT48 rfl rfl (Sl.o ha.outer) g1) (TO.q (q_len uT48 rfl) (TO.qm rfl (TO.nl (T.block ?_))))))))))))
  refine T.sub (O' := ([rowI qb qc 120 2 (rcells (q0 :: rest)), rowI (aD z2) a.next.length 4 1 (bools (seenB a (shq a i))), oI z4 120 [(vI ((q0.p.1 : Nat) : Int)), (.slice q0.b q0.xs.length q0.c)], oI z1 25 (dC a k)] ++ qitms 5 (q0 :: rest))) (Sub.pickR [1, 1, 0, 0] [oI z4 120 [(vI ((q0.p.1 : Nat) : Int)), (.slice q0.b q0.xs.length q0.c)], rowI qb qc 120 2 (rcells (q0 :: rest)), rowI (aD z2) a.next.length 4 1 (bools (seenB a (shq a i))), oI z1 25 (dC a k)] (qitms 5 (q0 :: rest)) rfl rfl) ?_
  refine T.loop (fun (x : Nat) ρ O => ∃ (qb : Option Addr) (qc m : Nat) (rest : List QRec), O = ([rowI qb qc 120 2 (rcells (q0 :: rest)), rowI (aD z2) a.next.length 4 1 (bools (seenB a (pushN a q0.stp (shq a i) x))), oI z4 120 [(vI ((q0.p.1 : Nat) : Int)), (.slice q0.b q0.xs.length q0.c)], oI z1 25 (dC a k)] ++ (qitms 5 (q0 :: rest))) ∧ x ≤ letN a ∧ m = rest.length ∧ (q0 :: rest).map QRec.stp = (pushN a q0.stp (shq a i) x).drop i ∧ Heads [(0, (dV a k)), (1, (.pointer (aD z1))), (5, vI 0), (6, (.slice (aD z2) a.next.length a.next.length)), (7, (.slice qb (m + 1) qc)), (8, (.pointer (aD z4))), (49, (.slice vb1 a.next[q0.p.1].length vc1)), (50, vI (a.next[q0.p.1].length : Int)), (51, vI ((x : Nat) : Int))] ρ) (fun x => letN a - x) 0 ?_ ?_
  ·exact ⟨qb, qc, m, rest, rfl, Nat.zero_le _, hm, hrs, (.of rfl)⟩
  rintro x ρ O ⟨qb, qc, m, rest, rfl, hx9, hm, hrs2, hH⟩
  obtain ⟨ρ0, rfl⟩ := hH.elim
  clear hH
  refine T.s (T.rg (TO.q (q_lss rfl rfl) (TO.nl (T.s (T.condP rfl (fun hc => ?_) (fun hc => ?_))))))
  ·have hlt52 : x < a.next[q0.p.1].length := by omega
   have hlx : x < letN a := by rw [hl1] at hlt52; exact hlt52
   refine T.skip (T.s (T.block (T.s ?_)))
   obtain ⟨hto, _, hxk1, hx1⟩ := hv.toN_lt hp1 hlx
   have hx1 : (ints a.next[q0.p.1])[x]? = some (vI ((toN a q0.p.1 x : Nat) : Int)) := by rw [ints_get hxk1, hx1]
   have hsd : suc2 a q0.p x = (toN a q0.p.1 x, toN a q0.p.1 x) := by rw [hpd]; rfl
   refine T.rg (TO.qm rfl (TO.q (q_ix (i := x) uT48 inf3 rfl rfl (Sl.o s1) hlt52 (by rw [List.length_map]; exact hlt52)) (TO.q (q_ld uT3 rfl rfl (Sl.o s1) hx1) (TO.qa rfl (TO.qa rfl (TO.nl (T.s (T.rg (TO.qm rfl (TO.qm rfl (TO.q (q_ix (i := (toN a q0.p.1 x)) uT23 inf4 rfl rfl (rowO (mG 1 rfl)) hto (by rw [List.length_map, seenB_len]; exact hto)) (TO.q (q_ld uT4 rfl rfl (rowO (mG 1 rfl)) (seenB_at hto)) (TO.q (QT.cast (q_not rfl) (v' := .bool (decide (¬ suc2 a q0.p x ∈ (pushN a q0.stp (shq a i) x).map Prod.fst))) (by rw [hsd]; simp)) (TO.nl (T.condP rfl (fun hc => ?_) (fun hc => ?_))))))))))))))))
   ·have hin : ¬ suc2 a q0.p x ∈ (pushN a q0.stp (shq a i) x).map Prod.fst := hc
    have hsc := fun w => show bools (seenB a ((pushN a q0.stp (shq a i) x) ++ [(suc2 a q0.p x, w)])) = bools (seenB a ((pushN a q0.stp (shq a i) x) ++ [(suc2 a q0.p x, w)])) from rfl
    have hrl : rest.length + 1 ≤ a.next.length := by
     have := congrArg List.length hrs2
     simp at this
     have := (hmid x hx9).1
     omega
    have hil := (hmid x hx9).2.2.2.2.2
    refine T.s (T.rg (TO.qm rfl (TO.qm rfl (TO.q (q_ix (i := (toN a q0.p.1 x)) uT23 inf4 rfl rfl (rowO (mG 1 rfl)) hto (by rw [List.length_map, seenB_len]; exact hto)) (TO.l rfl (l_st (j := (toN a q0.p.1 x)) (v := .bool true) (vs := [(.bool true)]) (cs := bools (seenB a (pushN a q0.stp (shq a i) x))) 1 inf4 rfl rfl rfl rfl rfl (by simp) rfl (by rw [List.length_map, seenB_len]; simp; omega) ?_))))))
    refine TO.sub (O' := ([rowI qb qc 120 2 (rcells (q0 :: rest)), rowI (aD z2) a.next.length 4 1 (bools (seenB a ((pushN a q0.stp (shq a i) x) ++ [(suc2 a q0.p x, q0.xs ++ [x])]))), oI z4 120 [(vI ((q0.p.1 : Nat) : Int)), (.slice q0.b q0.xs.length q0.c)], oI z1 25 (dC a k)] ++ (qitms 5 (q0 :: rest)))) (by rw [show putL (bools (seenB a (pushN a q0.stp (shq a i) x))) (toN a q0.p.1 x) [(.bool true)] = bools (seenB a ((pushN a q0.stp (shq a i) x) ++ [(suc2 a q0.p x, q0.xs ++ [x])])) from (by rw [hsd]; exact seenB_put _ hto)]; exact Sub.of (List.Sublist.refl _)) ?_
    refine TO.nl (T.rg (TO.qm rfl (TO.qm rfl (TO.q (q_fa uT120 rfl inf34 rfl rfl) (TO.q (q_lb 2 uT34 rfl rfl rfl rfl) (TO.l rfl (l_call ent97 (CallT.op fun w1 hI => (haveI := tbz hI; cloneC w1 q0.b q0.c q0.xs (hI.slOf (T := 5) (k := 1) (List.mem_append_right _ List.mem_cons_self)) (by omega))) rfl ?_)))))))
    rintro vr O' ⟨N, rfl, wb, wc, rfl, rfl⟩
    refine TO.qm rfl (TO.q (q_conv_id uT3 uT5 rfl (wrap8 (by omega))) (TO.l rfl (l_build1 (v := .int .u8 ((x : Nat) : Int)) uT34 inf5 rfl rfl rfl (fun z5 => ?_))))
    refine TO.l rfl (l_append 1 uT34 uT34 inf5 rfl rfl rfl rfl (by rw [List.length_map, Nat.mul_one]) (by decide) (Src.row (j := 0) rfl (by simp)) (by simp [oneB]) (by omega) (by decide) (by decide) (fun z6 zc7 => ?_))
    refine TO.q (q_build (cs := [vI ((toN a q0.p.1 x : Nat) : Int), (.slice z6 (q0.xs.length + 1) zc7)]) plan120 inf120 (by kernel_rfl)) (TO.l rfl (l_buildSlice (m := 1) (parts := [(0, _)]) (cs := [vI ((toN a q0.p.1 x : Nat) : Int), (.slice z6 (q0.xs.length + 1) zc7)]) uT121 inf120 (by decide) (by kernel_rfl) rfl (fun z8 => ?_)))
    refine TO.l rfl (l_append 3 uT121 uT121 inf120 rfl rfl rfl rfl (by rw [rcells_len, hm]; rfl) (by decide) (Src.row (j := 0) rfl (by simp)) (by simp [oneB]) (by omega) (by decide) (by decide) (fun z9 zc10 => ?_))
    refine TO.qa rfl (TO.nl ?_)
    obtain ⟨wb2, hwb2⟩ : ∃ z, z = z6 := ⟨_, rfl⟩
    obtain ⟨wc2, hwc2⟩ : ∃ z, z = zc7 := ⟨_, rfl⟩
    refine T.sub (O' := ([rowI z9 zc10 120 2 ((rcells (q0 :: rest)) ++ [vI ((toN a q0.p.1 x : Nat) : Int), (.slice z6 (q0.xs.length + 1) zc7)]), rowI (aD z2) a.next.length 4 1 (bools (seenB a ((pushN a q0.stp (shq a i) x) ++ [(suc2 a q0.p x, q0.xs ++ [x])]))), oI z4 120 [(vI ((q0.p.1 : Nat) : Int)), (.slice q0.b q0.xs.length q0.c)], oI z1 25 (dC a k), rowI z6 zc7 5 1 ((byts q0.xs) ++ [.int .u8 ((x : Nat) : Int)])] ++ qitms 5 (q0 :: rest))) (Sub.pickR [3, 3, 3, 3, 2] [rowI (aD z8) 1 120 2 [vI ((toN a q0.p.1 x : Nat) : Int), (.slice z6 (q0.xs.length + 1) zc7)], rowI (aD z5) 1 5 1 [.int .u8 ((x : Nat) : Int)], rowI z6 zc7 5 1 ((byts q0.xs) ++ [.int .u8 ((x : Nat) : Int)]), rowI z9 zc10 120 2 ((rcells (q0 :: rest)) ++ [vI ((toN a q0.p.1 x : Nat) : Int), (.slice z6 (q0.xs.length + 1) zc7)]), rowI (aD z2) a.next.length 4 1 (bools (seenB a ((pushN a q0.stp (shq a i) x) ++ [(suc2 a q0.p x, q0.xs ++ [x])]))), oI z4 120 [(vI ((q0.p.1 : Nat) : Int)), (.slice q0.b q0.xs.length q0.c)], oI z1 25 (dC a k)] (qitms 5 (q0 :: rest)) rfl rfl) ?_
    refine T.sub (O' := ([rowI z9 zc10 120 2 ((rcells (q0 :: rest)) ++ [vI ((toN a q0.p.1 x : Nat) : Int), (.slice z6 (q0.xs.length + 1) zc7)]), rowI (aD z2) a.next.length 4 1 (bools (seenB a ((pushN a q0.stp (shq a i) x) ++ [(suc2 a q0.p x, q0.xs ++ [x])]))), oI z4 120 [(vI ((q0.p.1 : Nat) : Int)), (.slice q0.b q0.xs.length q0.c)], oI z1 25 (dC a k)] ++ qitms 5 (q0 :: (rest ++ [⟨suc2 a q0.p x, wb2, wc2, q0.xs ++ [x]⟩])))) (by rw [show qitms 5 (q0 :: (rest ++ [⟨suc2 a q0.p x, wb2, wc2, q0.xs ++ [x]⟩])) = qitms 5 (q0 :: rest) ++ [rowI z6 zc7 5 1 ((byts q0.xs) ++ [.int .u8 ((x : Nat) : Int)])] by subst hwb2; subst hwc2; simp [QRec.itm]]; exact Sub.foldN [rowI z9 zc10 120 2 ((rcells (q0 :: rest)) ++ [vI ((toN a q0.p.1 x : Nat) : Int), (.slice z6 (q0.xs.length + 1) zc7)]), rowI (aD z2) a.next.length 4 1 (bools (seenB a ((pushN a q0.stp (shq a i) x) ++ [(suc2 a q0.p x, q0.xs ++ [x])]))), oI z4 120 [(vI ((q0.p.1 : Nat) : Int)), (.slice q0.b q0.xs.length q0.c)], oI z1 25 (dC a k)] (rowI z6 zc7 5 1 ((byts q0.xs) ++ [.int .u8 ((x : Nat) : Int)])) (qitms 5 (q0 :: rest)) _ rfl) ?_
    refine T.rg (TO.q (q_addN (a := x) (b := 1) rfl rfl (by omega)) (TO.qm rfl (TO.nl ?_)))
    have hA : pushN a q0.stp (shq a i) (x + 1) = (pushN a q0.stp (shq a i) x) ++ [(suc2 a q0.p x, q0.xs ++ [x])] := by
     show pushS a q0.stp _ x = _
     unfold pushS
     exact if_neg hin
    refine ⟨x + 1, by omega, z9, zc10, m + 1, rest ++ [⟨suc2 a q0.p x, wb2, wc2, q0.xs ++ [x]⟩], ?_, by omega, by simp [hm], ?_, (.of rfl)⟩
    ·rw [hA, hsc, show rcells (q0 :: (rest ++ [⟨suc2 a q0.p x, wb2, wc2, q0.xs ++ [x]⟩])) = rcells (q0 :: rest) ++ [(vI ((toN a q0.p.1 x : Nat) : Int)), (.slice wb2 (q0.xs.length + 1) wc2)] by simp [QRec.cel, suc2]]; subst hwb2; subst hwc2; rfl
    ·rw [hA, List.drop_append_of_le_length (by omega), ← hrs2]; simp [QRec.stp]
   have hin : suc2 a q0.p x ∈ (pushN a q0.stp (shq a i) x).map Prod.fst := Classical.not_not.1 hc
   have hil := (hmid x hx9).2.2.2.2.2
   refine T.skip (T.rg (TO.q (q_addN (a := x) (b := 1) rfl rfl (by omega)) (TO.qm rfl (TO.nl ?_))))
   have hA : pushN a q0.stp (shq a i) (x + 1) = (pushN a q0.stp (shq a i) x) := by
    show pushS a q0.stp _ x = _
    unfold pushS
    exact if_pos hin
   refine ⟨x + 1, by omega, qb, qc, m, rest, by rw [hA], by omega, hm, by rw [hA]; exact hrs2, (.of rfl)⟩
  have hge52 : ¬ x < a.next[q0.p.1].length := by omega
  refine T.exit ?_
  refine T.rg (TO.qm rfl (TO.l rfl (l_tail 0 uT121 inf120 (by decide) rfl rfl rfl (by rw [rcells_len, hm]; rfl) (by omega) (fun z11 => ?_))))
  refine TO.qa rfl ?_
  refine TO.sub (O' := ([rowI z11 (qc - 1) 120 2 (rcells rest), rowI (aD z2) a.next.length 4 1 (bools (seenB a (pushN a q0.stp (shq a i) x))), oI z1 25 (dC a k)] ++ qitms 5 (q0 :: rest))) (Sub.pickR [0, 0, 1] [rowI z11 (qc - 1) 120 2 (rcells rest), rowI (aD z2) a.next.length 4 1 (bools (seenB a (pushN a q0.stp (shq a i) x))), oI z4 120 [(vI ((q0.p.1 : Nat) : Int)), (.slice q0.b q0.xs.length q0.c)], oI z1 25 (dC a k)] (qitms 5 (q0 :: rest)) rfl rfl) ?_
  refine TO.sub (O' := ([rowI z11 (qc - 1) 120 2 (rcells rest), rowI (aD z2) a.next.length 4 1 (bools (seenB a (pushN a q0.stp (shq a i) x))), oI z1 25 (dC a k)] ++ qitms 5 rest)) (by exact Sub.k (Sub.k (Sub.k (Sub.d Sub.rf)))) ?_
  refine TO.nl ?_
  have hxe : x = letN a := Nat.le_antisymm hx9 (by rw [hl1] at hge52; exact Nat.le_of_not_lt hge52)
  have hbq : pushN a q0.stp (shq a i) x = shq a (i + 1) := by rw [hxe]; exact (bq_succ hq0).symm
  refine ⟨i + 1, by omega, z11, qc - 1, m, rest, by rw [hbq], hm, ?_, ?_, (.of rfl)⟩
  ·rw [← hbq]; have := congrArg List.tail hrs2; simpa [List.tail_drop] using this
  ·intro j hj9
   by_cases e : j = i
   ·subst e; exact ⟨q0.stp, hq0, heq⟩
   ·exact hj j (by omega)
 have hge30 : ¬ m > 0 := by omega
 refine T.exit ?_
 refine T.s (T.rg (TO.qa rfl (TO.qa rfl (TO.qa rfl (TO.nl (T.ret (Res.drop ?_)))))))
 refine Res.three nS (.bool false) (vI 0) Tryz.results73 rfl rfl rfl ?_
 have hend : (shq a i).length ≤ i := by
  have := congrArg List.length hrs
  simp at this
  omega
 exact ⟨[], Sub.z, none, ShR.least hv.toVal (res := none) ⟨i, hj, hend⟩, rfl, rfl⟩
end Go.Proofs.YtnpehjpookcfkaaGreatDoor


namespace Go.Lx
open Go.RowKit
theorem HasL.opW {f : Bool → Bool → Bool} {v : Int} {n m N : Nat} {a b : DFA} {p q : List Nat → Bool} (ha : HasL v n a p) (hb : HasL v m b q) (h : (order (prodD f a b)).length ≤ N) (hN : N ≤ 4096) : MinL v N (opD f a b) (fun w => f (p w) (q w)) := by
 have hv : a.vars = b.vars := by rw [ha.vars, hb.vars]
 have vD : Val (prodD f a b) := prod_val ha.valid.toVal hb.valid.toVal hv
 have vR : Valid (renum (prodD f a b)) := renum_fit vD (Nat.le_trans h hN)
 have e : opD f a b = minD (renum (prodD f a b)) := (minD_renum vD).symm
 have hl : (minD (renum (prodD f a b))).next.length ≤ (renum (prodD f a b)).next.length := minD_len vR.toVal
 have hr : (renum (prodD f a b)).next.length = (order (prodD f a b)).length := by simp [renum]
 refine ⟨⟨?_, ?_, ha.vars, fun w hw => ?_⟩, opD_minW ha.valid.toVal hb.valid.toVal hv⟩
 ·rw [e]; exact minD_valid vR
 ·rw [e]; omega
 ·rw [opD_accW ha.valid.toVal hb.valid.toVal hv (ha.wd.2 hw), ha.acc w hw, hb.acc w hw]
end Go.Lx


namespace Go.Lx
open Go.RowKit
theorem HasL.accV {v : Int} {n : Nat} {d : DFA} {p : List Nat → Bool} (h : HasL v n d p) {w : List Nat} (hw : WdV v w) (hl : w.length ≤ 64) : Lx.accV d w = p w := by
 rw [accV_zero (runE_zero.2 ⟨h.valid, hl, h.wd.2 hw⟩), h.acc w hw]
theorem min_bounds {v : Int} {n : Nat} {d : DFA} {p : List Nat → Bool} (h : HasL v n d p) : d.next.length < 9223372036854775807 ∧ (∀ r ∈ d.next, r.length < 9223372036854775807) ∧ d.final.length < 9223372036854775807 :=
 ⟨by have := h.valid.n4; omega, h.valid.bound, by have := h.valid.fin; have := h.valid.n4; omega⟩
end Go.Lx


namespace Go.Lx
open Go.RowKit
structure Sh (d : DFA) : Prop where
 n8 : d.next.length ≤ 8
 f40 : d.final.length ≤ 40
 r100 : ∀ r ∈ d.next, r.length ≤ 100
theorem Sh.b1 {d : DFA} (h : Sh d) : d.next.length < 9223372036854775807 := by have := h.n8; omega
theorem Sh.b2 {d : DFA} (h : Sh d) : ∀ r ∈ d.next, r.length < 9223372036854775807 := fun r hr => by have := h.r100 r hr; omega
theorem Sh.b3 {d : DFA} (h : Sh d) : d.final.length < 9223372036854775807 := by have := h.f40; omega
theorem Sh.mul {a b : DFA} (ha : Sh a) (hb : Sh b) : a.next.length * b.next.length ≤ 64 := Nat.mul_le_mul ha.n8 hb.n8
theorem Sh.has {d : DFA} (h : Sh d) (hv : Valid d) : HasL d.vars 8 d (acc d) := HasL.of hv h.n8
theorem HasL.wrong {v : Int} {n m : Nat} {a b : DFA} {p q : List Nat → Bool} (ha : HasL v n a p) (hb : HasL v m b q) : wrongD a b = 0 := wrongD_zero.2 ⟨ha.valid, hb.valid, by rw [ha.vars, hb.vars]⟩
theorem HasL.le {v : Int} {n m : Nat} {a : DFA} {p : List Nat → Bool} (ha : HasL v n a p) (h : a.next.length ≤ m) : HasL v m a p := ⟨ha.valid, h, ha.vars, ha.acc⟩
end Go.Lx


namespace Go.Lx
open Go.RowKit
theorem HasL.v6 {v : Int} {n : Nat} {d : DFA} {p : List Nat → Bool} (h : HasL v n d p) : 2 ^ v.toNat ≤ 64 := by
 have := h.valid.width; rw [h.vars] at this; exact this
theorem WdV.lt {v : Int} {w : List Nat} (h : WdV v w) (h6 : 2 ^ v.toNat ≤ 64) : ∀ x ∈ w, x < 64 := fun x hx => by have := h x hx; omega
theorem LeastA.lt {m : DFA} (hm : Valid m) (hn : m.next.length + 1 ≤ 4096) {u : List Nat} (h : LeastA m (some u)) : u.length ≤ m.next.length := by
 have hs := stay_valid hm.v0 hm.v6 false
 have hd : ∀ w, Wd m w → (dst (both m (stayD m.vars false)) m.start.toNat m.next.length w ↔ acc m w = true) := fun w hw => by
  have h1 := both_dst (a := m) (b := stayD m.vars false) hm hs rfl hw
  rw [show m.next.length + (stayD m.vars false).start.toNat = m.next.length from rfl] at h1
  rw [h1, stay_acc hm.v0 hm.v6 false (show Wd (stayD m.vars false) w from hw)]
  cases acc m w <;> simp
 obtain ⟨h1, h2, h3⟩ := h
 have hT : Tell (both m (stayD m.vars false)) m.start.toNat m.next.length (some u) := ⟨h1, (hd u h1).2 h2, fun x hx hxd => h3 x hx ((hd x hx).1 hxd)⟩
 have hlen := both_len m (stayD m.vars false)
 have h1' : (stayD m.vars false).next.length = 1 := rfl
 have := Tell.lt (both_valid hm hs rfl hn) (by rw [hlen]; have := start_lt hm.toVal; omega) (by rw [hlen]; omega) hT
 omega
end Go.Lx


namespace Go.Lx
open Go.RowKit
structure InL (z d : DFA) (p : List Nat → Bool) : Prop where
 has : HasL z.vars z.next.length d p
 det : Det z d
theorem InL.fac {z d : DFA} {p : List Nat → Bool} (h : InL z d p) : Fac z p := h.det.fac h.has
theorem InL.order {z a b : DFA} {p q : List Nat → Bool} {f : Bool → Bool → Bool} (hz : Valid z) (ha : InL z a p) (hb : InL z b q) : (order (prodD f a b)).length ≤ z.next.length :=
 pr_order_factW ha.has.valid.toVal hb.has.valid.toVal (by rw [ha.has.vars, hb.has.vars]) hz.toVal ha.has.vars.symm ha.det hb.det
theorem InL.op {z a b : DFA} {p q : List Nat → Bool} {f : Bool → Bool → Bool} (hz : Valid z) (ha : InL z a p) (hb : InL z b q) : MinL z.vars z.next.length (opD f a b) (fun w => f (p w) (q w)) ∧ InL z (opD f a b) (fun w => f (p w) (q w)) := by
 have hm := ha.has.opW hb.has (InL.order (f := f) hz ha hb) hz.n4
 exact ⟨hm, hm.toHasL, (ha.fac.op f hb.fac).det hm⟩
theorem InL.min {z d : DFA} {p : List Nat → Bool} (hz : Valid z) (h : InL z d p) : MinL z.vars z.next.length (minD d) p ∧ InL z (minD d) p :=
 ⟨h.has.minim, h.has.minim.toHasL, h.fac.det h.has.minim⟩
theorem InL.of {z d : DFA} (hz : Valid z) (hd : Valid d) (hv : z.vars = d.vars) (hl : d.next.length ≤ z.next.length) (h : Det z d) : InL z d (acc d) := ⟨⟨hd, hl, hv.symm, fun _ _ => rfl⟩, h⟩
def zP (v : Int) : List DFA → DFA
 | [] => stayD v true
 | d :: l => prodD andB d (zP v l)
def zN : List DFA → Nat
 | [] => 1
 | d :: l => d.next.length * zN l
theorem zP_ok {v : Int} (h0 : 0 ≤ v) (h6 : v ≤ 6) : ∀ {l : List DFA}, (∀ d ∈ l, Val d ∧ d.vars = v) → Val (zP v l) ∧ (zP v l).vars = v ∧ (zP v l).next.length = zN l ∧ ∀ d ∈ l, Det (zP v l) d ∧ d.next.length ≤ zN l
 | [], _ => ⟨(stay_valid h0 h6 true).toVal, rfl, rfl, fun d hd => by cases hd⟩
 | d :: l, h => by
  obtain ⟨hd, hdv⟩ := h d (by simp)
  obtain ⟨i1, i2, i3, i4⟩ := zP_ok h0 h6 (l := l) fun x hx => h x (by simp [hx])
  have hv : d.vars = (zP v l).vars := by rw [hdv, i2]
  obtain ⟨d1, d2⟩ := Det.prodL (f := andB) hd i1 hv
  have hn0 := i1.n0
  have hd0 := hd.n0
  refine ⟨prod_val hd i1 hv, hdv, by show (prodD andB d (zP v l)).next.length = _; rw [prod_len, i3]; rfl, fun x hx => ?_⟩
  rcases List.mem_cons.1 hx with rfl | hx
  ·exact ⟨d1, Nat.le_mul_of_pos_right _ (by omega)⟩
  ·obtain ⟨e1, e2⟩ := i4 x hx
   exact ⟨Det.trans (z := zP v (d :: l)) (y := zP v l) (by show d.vars = _; rw [hdv, i2]) d2 e1, Nat.le_trans e2 (Nat.le_mul_of_pos_left _ hd0)⟩
end Go.Lx


namespace Go.Lx
open Go.RowKit
abbrev cC (a g : DFA) (j k : DK) : List Value := [.int .i64 a.vars, .int .i64 a.start, .slice j.nb a.next.length j.nc, .slice j.fb a.final.length j.fc, .int .i64 g.vars, .int .i64 g.start, .slice k.nb g.next.length k.nc, .slice k.fb g.final.length k.fc]
abbrev cV (a g : DFA) (j k : DK) : Value := .agg (cC a g j k).toArray
abbrev bC (e : Value) (a g : DFA) (j k : DK) : List Value := e :: cC a g j k
def satD (a g : DFA) : DFA := opD orB g (notD a)
theorem InL.not {z a : DFA} {p : List Nat → Bool} (hz : Valid z) (ha : InL z a p) : MinL z.vars z.next.length (notD a) (fun w => !p w) ∧ InL z (notD a) (fun w => !p w) := InL.op (f := notB) hz ha ha
theorem InL.sat {z a g : DFA} {p q : List Nat → Bool} (hz : Valid z) (ha : InL z a p) (hg : InL z g q) : MinL z.vars z.next.length (satD a g) (fun w => q w || !p w) ∧ InL z (satD a g) (fun w => q w || !p w) := InL.op (f := orB) hz hg (InL.not hz ha).2
theorem InL.wrong {z a b : DFA} {p q : List Nat → Bool} (ha : InL z a p) (hb : InL z b q) : wrongD a b = 0 := wrongD_zero.2 ⟨ha.has.valid, hb.has.valid, by rw [ha.has.vars, hb.has.vars]⟩
theorem InL.ord {z a b : DFA} {p q : List Nat → Bool} {f : Bool → Bool → Bool} (hz : Valid z) (ha : InL z a p) (hb : InL z b q) : (Lx.order (prodD f a b)).length ≤ 4096 := Nat.le_trans (InL.order hz ha hb) hz.n4
theorem InL.bds {z d : DFA} {p : List Nat → Bool} (h : InL z d p) : d.next.length < 9223372036854775807 ∧ (∀ r ∈ d.next, r.length < 9223372036854775807) ∧ d.final.length < 9223372036854775807 := min_bounds h.has
end Go.Lx
namespace Go.Lx
def cE (a g : DFA) : Nat := if checkD a ≠ 0 then checkD a else if checkD g ≠ 0 then checkD g else if a.vars ≠ g.vars then 7 else 0
theorem cE_first {a g : DFA} (h : checkD a ≠ 0) : cE a g = checkD a := by unfold cE; rw [if_pos h]
theorem cE_second {a g : DFA} (h : checkD a = 0) (h2 : checkD g ≠ 0) : cE a g = checkD g := by unfold cE; rw [if_neg (by omega), if_pos h2]
theorem cE_vars {a g : DFA} (h : checkD a = 0) (h2 : checkD g = 0) (h3 : a.vars ≠ g.vars) : cE a g = 7 := by unfold cE; rw [if_neg (by omega), if_neg (by omega), if_pos h3]
theorem cE_ok {a g : DFA} (h : checkD a = 0) (h2 : checkD g = 0) (h3 : a.vars = g.vars) : cE a g = 0 := by unfold cE; rw [if_neg (by omega), if_neg (by omega), if_neg (fun h => h h3)]
end Go.Lx


namespace Go.Proofs.YtnpehjpookcfkaaGreatDoor
open Go.Lx Go.RowKit _root_.Go.Proofs.Tryz
theorem orZ (w : World) [Tab Tryz.prog w] {z a b : DFA} {p q : List Nat → Bool} (hz : Valid z) (ha : InL z a p) (hb : InL z b q) (j k : DK) (hj : At w a j) (hk : At w b k) {M : DFA} (hM : opD orB a b = M) :
  PureT Tryz.prog 54 [dV a j, dV b k] w fun v N => ∃ k' : DK, v = .tuple #[dV M k', vI 0] ∧ N = [dI 48 4 3 M k'] := by
 have b1 := ha.bds
 have b2 := hb.bds
 have h := orC w a b j k hj hk b1.1 b1.2.1 b1.2.2 b2.1 b2.2.1 b2.2.2 (fun _ => InL.ord hz ha hb)
 rw [opV_ok (ha.wrong hb), ha.wrong hb, hM] at h
 exact h
theorem andZ (w : World) [Tab Tryz.prog w] {z a b : DFA} {p q : List Nat → Bool} (hz : Valid z) (ha : InL z a p) (hb : InL z b q) (j k : DK) (hj : At w a j) (hk : At w b k) {M : DFA} (hM : opD andB a b = M) :
  PureT Tryz.prog 43 [dV a j, dV b k] w fun v N => ∃ k' : DK, v = .tuple #[dV M k', vI 0] ∧ N = [dI 48 4 3 M k'] := by
 have b1 := ha.bds
 have b2 := hb.bds
 have h := andC w a b j k hj hk b1.1 b1.2.1 b1.2.2 b2.1 b2.2.1 b2.2.2 (fun _ => InL.ord hz ha hb)
 rw [opV_ok (ha.wrong hb), ha.wrong hb, hM] at h
 exact h
theorem minusZ (w : World) [Tab Tryz.prog w] {z a b : DFA} {p q : List Nat → Bool} (hz : Valid z) (ha : InL z a p) (hb : InL z b q) (j k : DK) (hj : At w a j) (hk : At w b k) {M : DFA} (hM : opD minusB a b = M) :
  PureT Tryz.prog 45 [dV a j, dV b k] w fun v N => ∃ k' : DK, v = .tuple #[dV M k', vI 0] ∧ N = [dI 48 4 3 M k'] := by
 have b1 := ha.bds
 have b2 := hb.bds
 have h := minusC w a b j k hj hk b1.1 b1.2.1 b1.2.2 b2.1 b2.2.1 b2.2.2 (fun _ => InL.ord hz ha hb)
 rw [opV_ok (ha.wrong hb), ha.wrong hb, hM] at h
 exact h
theorem notZ0 (w : World) [Tab Tryz.prog w] {z a : DFA} {p : List Nat → Bool} (hz : Valid z) (ha : InL z a p) (j : DK) (hj : At w a j) {M : DFA} (hM : notD a = M) :
  PureT Tryz.prog 84 [dV a j] w fun v N => ∃ k' : DK, v = .tuple #[dV M k', vI 0] ∧ N = [dI 48 4 3 M k'] := by
 have b1 := ha.bds
 have h := notC w a j hj b1.1 b1.2.1 b1.2.2
 rw [opV_ok (ha.wrong ha), checkD_zero.2 ha.has.valid, show opD notB a a = M from hM] at h
 exact h
theorem shoK (w : World) [Tab Tryz.prog w] (a : DFA) (k : DK) (ha : At w a k) (hv : Valid a) :
  PureT Tryz.prog 73 [dV a k] w fun v N => ∃ res wb wc, LeastA a res ∧ v = .tuple #[.slice wb (res.getD []).length wc, .bool res.isSome, vI 0] ∧ N = [rowI wb wc 5 1 (byts (res.getD []))] := by
 refine (CallT.nilOr 5 1 (shoOk w a k ha hv)).mono ?_
 rintro v N ⟨O2, hN, res, hL, hV⟩
 cases res with
 | none =>
  obtain ⟨rfl, rfl⟩ := hV
  exact ⟨none, none, 0, hL, rfl, hN.2 rfl⟩
 | some u =>
  obtain ⟨b, c, rfl, rfl⟩ := hV
  exact ⟨some u, b, c, hL, rfl, hN.1 (by simp)⟩
theorem conCheck (w : World) [Tab Tryz.prog w] (a g : DFA) (j k : DK) (ha : At w a j) (hg : At w g k) (ba : a.next.length < 9223372036854775807 ∧ (∀ r ∈ a.next, r.length < 9223372036854775807) ∧ a.final.length < 9223372036854775807) (bg : g.next.length < 9223372036854775807 ∧ (∀ r ∈ g.next, r.length < 9223372036854775807) ∧ g.final.length < 9223372036854775807) :
  PureT Tryz.prog 8 [cV a g j k] w fun v N => v = vI (cE a g : Int) ∧ N = [] := by
 refine CallT.enter func8 rfl ntmps8 rfl ?_
 refine T.s (T.rg (TO.l rfl (l_box (v := (cV a g j k)) (cs := (cC a g j k)) rfl rfl (fun bx1 => ?_))))
 refine TO.qa rfl (TO.nl (T.s (T.s (T.rg (TO.q (q_fa uT27 rfl inf25 rfl rfl) (TO.q (q_load_part 0 (vs := (dC a j)) uT25 rfl inf25 rfl rfl rfl rfl) (TO.q (q_fa uT27 rfl inf25 rfl rfl) (TO.q (q_load_part 0 (vs := (dC g k)) uT25 rfl inf25 rfl rfl rfl rfl) (TO.q (q_buildA (cs := (cC a g j k)) uT50 inf25 inf50 (by kernel_rfl)) (TO.qm rfl (TO.nl (T.block ?_))))))))))))
 refine T.rounds 3 (T.round ?_)
 refine T.s (T.rg (TO.q (QT.toB (q_lss rfl rfl) (b' := true) rfl) (TO.nl (T.s ?_))))
 refine T.cond1 rfl ?_
 refine T.skip (T.s (T.block (T.s (T.rg (TO.q (q_indexA (i := 0) (vs := (dC a j)) uT50 uT25 rfl inf25 rfl rfl (by decide) rfl) (TO.l rfl (l_alloc inf25 rfl (fun bx2 => ?_))))))))
 refine TO.l rfl (l_sb (v := (dV a j)) (vs := (dC a j)) 0 inf25 rfl rfl rfl rfl rfl rfl (by simp [putL]) ?_)
 refine TO.nl (T.s (T.rg (TO.q (q_la 0 uT25 rfl inf25 rfl rfl rfl) (TO.l rfl (l_call ent33 (CallT.op fun w1 hI => (haveI := tbz hI; subsetCheck w1 a j.nb j.fb j.nc j.fc (vals j.qs) (hI.dfa ha) ba.1 ba.2.1 ba.2.2)) rfl ?_)))))
 rintro vr O' ⟨N, rfl, rfl, rfl⟩
 refine TO.qa rfl (TO.nl (T.s (T.rg (TO.qm rfl (TO.q (q_neq rfl rfl) (TO.nl (T.condP rfl (fun hc => ?_) (fun hc => ?_))))))))
 ·have hlt17 : checkD a ≠ 0 := by omega
  refine T.s (T.rg (TO.qm rfl (TO.qa rfl (TO.nl (T.ret (Res.drop ?_))))))
  refine Res.one (vI (checkD a : Int)) Tryz.results8 rfl ?_
  exact ⟨[], Sub.z, by rw [cE_first (by omega)], rfl⟩
 have hge17 : ¬ checkD a ≠ 0 := by omega
 refine T.skip (T.rg (TO.q (QT.cast (q_add64 rfl rfl (by omega)) (v' := vI 1) rfl) (TO.qm rfl (TO.nl ?_))))
 refine Rnd.reset [oI bx2 25 (dC a j), oI bx1 27 (cC a g j k)] [(0, (cV a g j k)), (1, (.pointer (aD bx1))), (2, vI 0), (4, (.pointer (aD bx2))), (5, vI (checkD a : Int)), (6, (.pointer (aD bx1))), (7, (dV a j)), (8, (.pointer (some ⟨bx1, 4, none⟩))), (9, (dV g k)), (10, (cV a g j k)), (11, vI 1)] rfl (.of rfl) (fun ρ0 => ?_)
 refine T.round ?_
 refine T.s (T.rg (TO.q (QT.toB (q_lss rfl rfl) (b' := true) rfl) (TO.nl (T.s ?_))))
 refine T.cond1 rfl ?_
 refine T.skip (T.s (T.block (T.s (T.rg (TO.q (q_indexA (i := 1) (vs := (dC g k)) uT50 uT25 rfl inf25 rfl rfl (by decide) rfl) (TO.l rfl (l_alloc inf25 rfl (fun bx3 => ?_))))))))
 refine TO.l rfl (l_sb (v := (dV g k)) (vs := (dC g k)) 0 inf25 rfl rfl rfl rfl rfl rfl (by simp [putL]) ?_)
 refine TO.nl (T.s (T.rg (TO.q (q_la 0 uT25 rfl inf25 rfl rfl rfl) (TO.l rfl (l_call ent33 (CallT.op fun w1 hI => (haveI := tbz hI; subsetCheck w1 g k.nb k.fb k.nc k.fc (vals k.qs) (hI.dfa hg) bg.1 bg.2.1 bg.2.2)) rfl ?_)))))
 rintro vr O' ⟨N, rfl, rfl, rfl⟩
 refine TO.qa rfl (TO.nl (T.s (T.rg (TO.qm rfl (TO.q (q_neq rfl rfl) (TO.nl (T.condP rfl (fun hc => ?_) (fun hc => ?_))))))))
 ·have hlt17 : checkD g ≠ 0 := by omega
  refine T.s (T.rg (TO.qm rfl (TO.qa rfl (TO.nl (T.ret (Res.drop ?_))))))
  refine Res.one (vI (checkD g : Int)) Tryz.results8 rfl ?_
  exact ⟨[], Sub.z, by rw [cE_second (by omega) (by omega)], rfl⟩
 have hge17 : ¬ checkD g ≠ 0 := by omega
 refine T.skip (T.rg (TO.q (QT.cast (q_add64 rfl rfl (by omega)) (v' := vI 2) rfl) (TO.qm rfl (TO.nl ?_))))
 refine Rnd.reset [oI bx3 25 (dC g k), oI bx2 25 (dC a j), oI bx1 27 (cC a g j k)] [(0, (cV a g j k)), (1, (.pointer (aD bx1))), (2, vI 0), (4, (.pointer (aD bx3))), (5, vI (checkD g : Int)), (6, (.pointer (aD bx1))), (7, (dV a j)), (8, (.pointer (some ⟨bx1, 4, none⟩))), (9, (dV g k)), (10, (cV a g j k)), (11, vI 2)] rfl (.of rfl) (fun ρ0 => ?_)
 refine T.round ?_
 refine T.s (T.rg (TO.q (QT.toB (q_lss rfl rfl) (b' := false) rfl) (TO.nl (T.s (T.cond0 rfl ?_)))))
 refine T.exit ?_
 refine T.s (T.s (T.rg (TO.q (q_fa uT27 rfl inf25 rfl rfl) (TO.q (q_fa uT25 rfl inf3 rfl rfl) (TO.q (q_lb 2 uT3 rfl rfl rfl rfl) (TO.q (q_fa uT27 rfl inf25 rfl rfl) (TO.q (q_fa uT25 rfl inf3 rfl rfl) (TO.q (q_lb 2 uT3 rfl rfl rfl rfl) (TO.q (q_neq rfl rfl) (TO.nl (T.condP rfl (fun hc => ?_) (fun hc => ?_))))))))))))
 ·refine T.s ?_
  refine T.rg (TO.qa rfl (TO.nl (T.ret (Res.drop ?_))))
  refine Res.one (vI 7) Tryz.results8 rfl ?_
  exact ⟨[], Sub.z, by rw [cE_vars (by omega) (by omega) hc]; rfl, rfl⟩
 refine T.skip (T.s (T.rg (TO.qa rfl (TO.nl (T.ret (Res.drop ?_))))))
 refine Res.one (vI 0) Tryz.results8 rfl ?_
 exact ⟨[], Sub.z, by rw [cE_ok (by omega) (by omega) (Classical.not_not.1 hc)]; rfl, rfl⟩
theorem doS (base : World) [Tab Tryz.prog base] (L : List Lx.Item) (sb : Nat) (a b : DFA) (j k : DK) (g : Nat) {fn : Func} (hen : Lx.Enters Tryz.prog g fn) {M : DFA} (hop : ∀ w1, Inv base L w1 → PureT Tryz.prog g [dV a j, dV b k] w1 fun v N => ∃ k' : DK, v = .tuple #[dV M k', vI 0] ∧ N = [dI 48 4 3 M k']) :
  CallT Tryz.prog base 37 [.pointer (aD sb), .func (.func g) #[] #[], dV a j, dV b k] ([oI sb 57 [(vI 0)]] ++ L) (fun v O' => ∃ k' : DK, v = dV M k' ∧ O' = [dI 48 4 3 M k', oI sb 57 [(vI 0)]] ++ L) := by
 refine CallT.enter func37 rfl ntmps37 rfl ?_
 refine T.s (T.rg (TO.l rfl (l_box (v := (dV a j)) (cs := (dC a j)) rfl rfl (fun y1 => ?_))))
 refine TO.l rfl (l_box (v := (dV b k)) (cs := (dC b k)) rfl rfl (fun y2 => ?_))
 refine TO.l rfl (l_alloc inf25 rfl (fun y3 => ?_))
 refine TO.nl (T.s (T.s (T.rg (TO.qm rfl (TO.q (q_nilCheck rfl) (TO.q (q_fa uT57 rfl inf30 rfl rfl) (TO.q (q_lb 3 uT30 rfl rfl rfl rfl) (TO.q (QT.toB (q_neq rfl rfl) (decide_eq_false (fun h => h rfl))) (TO.nl (T.cond0 rfl (T.skip (T.s (T.rg (TO.l rfl (l_alloc inf25 rfl (fun y4 => ?_))))))))))))))))
 refine TO.nl (T.s (T.rg (TO.qm rfl (TO.qm rfl (TO.q (q_la 3 uT25 rfl inf25 rfl rfl rfl) (TO.q (q_la 2 uT25 rfl inf25 rfl rfl rfl) ?_))))))
 have hk21 := CallV.under (A := L) (B := [oI y4 25 [(vI 0), (vI 0), nS, nS], oI y3 25 [(vI 0), (vI 0), nS, nS], oI y2 25 (dC b k), oI y1 25 (dC a j), oI sb 57 [(vI 0)]]) (O := ([oI y4 25 [(vI 0), (vI 0), nS, nS], oI y3 25 [(vI 0), (vI 0), nS, nS], oI y2 25 (dC b k), oI y1 25 (dC a j), oI sb 57 [(vI 0)]] ++ L)) (CallV.of_fn (first := []) (args := [dV a j, dV b k]) (caps := []) hen (CallT.op hop)) (by exact Sub.swap3 [] L [oI y4 25 [(vI 0), (vI 0), nS, nS], oI y3 25 [(vI 0), (vI 0), nS, nS], oI y2 25 (dC b k), oI y1 25 (dC a j), oI sb 57 [(vI 0)]])
 refine TO.l rfl (l_callG hk21 rfl rfl ?_)
 clear hk21
 rintro vr O' ⟨A1, rfl, N, rfl, k', rfl, rfl⟩
 refine TO.sub (O' := ([dI 48 4 3 M k', oI y4 25 [(vI 0), (vI 0), nS, nS], oI y3 25 [(vI 0), (vI 0), nS, nS], oI y2 25 (dC b k), oI y1 25 (dC a j), oI sb 57 [(vI 0)]] ++ L)) (by exact Sub.swap3 [dI 48 4 3 M k'] _ L) ?_
 refine TO.qm rfl (TO.q (q_extract (vs := _) rfl rfl) (TO.q (q_extract (vs := _) rfl rfl) (TO.l rfl (l_sb (v := (dV M k')) (vs := (dC M k')) 1 inf25 rfl rfl rfl rfl rfl rfl (by simp [putL]) ?_))))
 refine TO.q (q_nilCheck rfl) (TO.q (q_fa uT57 rfl inf30 rfl rfl) (TO.l rfl (l_sb (v := vI 0) (vs := [(vI 0)]) 5 inf30 rfl rfl rfl rfl rfl rfl (by simp [putL]) ?_)))
 refine TO.nl (T.s (T.rg (TO.q (q_la 1 uT25 rfl inf25 rfl rfl rfl) (TO.l rfl (l_sb (v := (dV M k')) (vs := (dC M k')) 2 inf25 rfl rfl rfl rfl rfl rfl (by simp [putL]) ?_)))))
 refine TO.nl (T.ret (Res.drop ?_))
 refine Res.cell1 (i := 2) Tryz.results37 uT25 rfl inf25 rfl rfl rfl ?_
 exact ⟨[dI 48 4 3 M k', oI sb 57 [(vI 0)]] ++ L, (Sub.pickR [0, 4] [dI 48 4 3 M k', oI y4 25 (dC M k'), oI y3 25 (dC M k'), oI y2 25 (dC b k), oI y1 25 (dC a j), oI sb 57 [(vI 0)]] L rfl rfl), k', rfl, rfl⟩
theorem doB (base : World) [Tab Tryz.prog base] (L : List Lx.Item) (sb : Nat) (c d : DFA) (m n : DK) (a b : DFA) (j k : DK) (g : Nat) {fn : Func} (hen : Lx.Enters Tryz.prog g fn) {M : DFA} (hop : ∀ w1, Inv base L w1 → PureT Tryz.prog g [dV a j, dV b k] w1 fun v N => ∃ k' : DK, v = .tuple #[dV M k', vI 0] ∧ N = [dI 48 4 3 M k']) :
  CallT Tryz.prog base 37 [.pointer (aD sb), .func (.func g) #[] #[], dV a j, dV b k] ([oI sb 59 (bC (vI 0) c d m n)] ++ L) (fun v O' => ∃ k' : DK, v = dV M k' ∧ O' = [dI 48 4 3 M k', oI sb 59 (bC (vI 0) c d m n)] ++ L) := by
 refine CallT.enter func37 rfl ntmps37 rfl ?_
 refine T.s (T.rg (TO.l rfl (l_box (v := (dV a j)) (cs := (dC a j)) rfl rfl (fun y1 => ?_))))
 refine TO.l rfl (l_box (v := (dV b k)) (cs := (dC b k)) rfl rfl (fun y2 => ?_))
 refine TO.l rfl (l_alloc inf25 rfl (fun y3 => ?_))
 refine TO.nl (T.s (T.s (T.rg (TO.qm rfl (TO.q (q_nilCheck rfl) (TO.q (q_fa uT57 rfl inf30 rfl rfl) (TO.q (q_lb 3 uT30 rfl rfl rfl rfl) (TO.q (QT.toB (q_neq rfl rfl) (decide_eq_false (fun h => h rfl))) (TO.nl (T.cond0 rfl (T.skip (T.s (T.rg (TO.l rfl (l_alloc inf25 rfl (fun y4 => ?_))))))))))))))))
 refine TO.nl (T.s (T.rg (TO.qm rfl (TO.qm rfl (TO.q (q_la 3 uT25 rfl inf25 rfl rfl rfl) (TO.q (q_la 2 uT25 rfl inf25 rfl rfl rfl) ?_))))))
 have hk21 := CallV.under (A := L) (B := [oI y4 25 [(vI 0), (vI 0), nS, nS], oI y3 25 [(vI 0), (vI 0), nS, nS], oI y2 25 (dC b k), oI y1 25 (dC a j), oI sb 59 (bC (vI 0) c d m n)]) (O := ([oI y4 25 [(vI 0), (vI 0), nS, nS], oI y3 25 [(vI 0), (vI 0), nS, nS], oI y2 25 (dC b k), oI y1 25 (dC a j), oI sb 59 (bC (vI 0) c d m n)] ++ L)) (CallV.of_fn (first := []) (args := [dV a j, dV b k]) (caps := []) hen (CallT.op hop)) (by exact Sub.swap3 [] L [oI y4 25 [(vI 0), (vI 0), nS, nS], oI y3 25 [(vI 0), (vI 0), nS, nS], oI y2 25 (dC b k), oI y1 25 (dC a j), oI sb 59 (bC (vI 0) c d m n)])
 refine TO.l rfl (l_callG hk21 rfl rfl ?_)
 clear hk21
 rintro vr O' ⟨A1, rfl, N, rfl, k', rfl, rfl⟩
 refine TO.sub (O' := ([dI 48 4 3 M k', oI y4 25 [(vI 0), (vI 0), nS, nS], oI y3 25 [(vI 0), (vI 0), nS, nS], oI y2 25 (dC b k), oI y1 25 (dC a j), oI sb 59 (bC (vI 0) c d m n)] ++ L)) (by exact Sub.swap3 [dI 48 4 3 M k'] _ L) ?_
 refine TO.qm rfl (TO.q (q_extract (vs := _) rfl rfl) (TO.q (q_extract (vs := _) rfl rfl) (TO.l rfl (l_sb (v := (dV M k')) (vs := (dC M k')) 1 inf25 rfl rfl rfl rfl rfl rfl (by simp [putL]) ?_))))
 refine TO.q (q_nilCheck rfl) (TO.q (q_fa uT57 rfl inf30 rfl rfl) (TO.l rfl (l_sb (v := vI 0) (vs := [(vI 0)]) 5 inf30 rfl rfl rfl rfl rfl rfl (by simp [putL]) ?_)))
 refine TO.nl (T.s (T.rg (TO.q (q_la 1 uT25 rfl inf25 rfl rfl rfl) (TO.l rfl (l_sb (v := (dV M k')) (vs := (dC M k')) 2 inf25 rfl rfl rfl rfl rfl rfl (by simp [putL]) ?_)))))
 refine TO.nl (T.ret (Res.drop ?_))
 refine Res.cell1 (i := 2) Tryz.results37 uT25 rfl inf25 rfl rfl rfl ?_
 exact ⟨[dI 48 4 3 M k', oI sb 59 (bC (vI 0) c d m n)] ++ L, (Sub.pickR [0, 4] [dI 48 4 3 M k', oI y4 25 (dC M k'), oI y3 25 (dC M k'), oI y2 25 (dC b k), oI y1 25 (dC a j), oI sb 59 (bC (vI 0) c d m n)] L rfl rfl), k', rfl, rfl⟩
theorem not1Z (w : World) [Tab Tryz.prog w] {z a : DFA} {p : List Nat → Bool} (hz : Valid z) (ha : InL z a p) (b : DFA) (j k : DK) (hj : At w a j) {M : DFA} (hM : notD a = M) :
  PureT Tryz.prog 83 [dV a j, dV b k] w fun v N => ∃ k' : DK, v = .tuple #[dV M k', vI 0] ∧ N = [dI 48 4 3 M k'] := by
 refine CallT.enter func83 rfl ntmps83 rfl ?_
 refine T.s (T.rg (TO.l rfl (l_box (v := (dV a j)) (cs := (dC a j)) rfl rfl (fun bx1 => ?_))))
 refine TO.l rfl (l_box (v := (dV b k)) (cs := (dC b k)) rfl rfl (fun bx2 => ?_))
 refine TO.l rfl (l_alloc inf25 rfl (fun bx3 => ?_))
 refine TO.qa rfl (TO.nl (T.s (T.rg (TO.q (q_la 2 uT25 rfl inf25 rfl rfl rfl) (TO.l rfl (l_call ent84 (CallT.op fun w1 hI => (haveI := tbz hI; notZ0 w1 hz ha j (hI.atB hj) hM)) rfl ?_))))))
 rintro vr O' ⟨N, rfl, k', rfl, rfl⟩
 refine TO.q (q_extract (vs := _) rfl rfl) (TO.q (q_extract (vs := _) rfl rfl) (TO.l rfl (l_sb (v := (dV M k')) (vs := (dC M k')) 1 inf25 rfl rfl rfl rfl rfl rfl (by simp [putL]) ?_)))
 refine TO.qa rfl (TO.nl (T.ret (Res.drop ?_)))
 refine Res.cell1b (vI 0) (i := 1) Tryz.results83 uT25 rfl inf25 rfl rfl rfl rfl ?_
 exact ⟨[dI 48 4 3 M k'], (by exact Sub.k .z), k', rfl, rfl⟩
theorem min1Z (w : World) [Tab Tryz.prog w] (a b : DFA) (hv : Valid a) (j k : DK) (hj : At w a j) {M : DFA} (hM : minD a = M) :
  PureT Tryz.prog 38 [dV a j, dV b k] w fun v N => ∃ k' : DK, v = .tuple #[dV M k', vI 0] ∧ N = [dI 48 4 3 M k'] := by
 refine CallT.enter func38 rfl ntmps38 rfl ?_
 refine T.s (T.rg (TO.l rfl (l_box (v := (dV a j)) (cs := (dC a j)) rfl rfl (fun bx1 => ?_))))
 refine TO.l rfl (l_box (v := (dV b k)) (cs := (dC b k)) rfl rfl (fun bx2 => ?_))
 refine TO.l rfl (l_alloc inf25 rfl (fun bx3 => ?_))
 refine TO.qa rfl (TO.nl (T.s (T.rg (TO.q (q_la 2 uT25 rfl inf25 rfl rfl rfl) (TO.l rfl (l_call ent39 (CallT.op fun w1 hI => (haveI := tbz hI; minKE w1 a j (hI.atB hj) hv (Nat.lt_of_le_of_lt hv.n4 (by decide)) hM)) rfl ?_))))))
 rintro vr O' ⟨N, rfl, k', rfl, rfl⟩
 refine TO.q (q_extract (vs := _) rfl rfl) (TO.q (q_extract (vs := _) rfl rfl) (TO.l rfl (l_sb (v := (dV M k')) (vs := (dC M k')) 1 inf25 rfl rfl rfl rfl rfl rfl (by simp [putL]) ?_)))
 refine TO.qa rfl (TO.nl (T.ret (Res.drop ?_)))
 refine Res.cell1b (vI 0) (i := 1) Tryz.results38 uT25 rfl inf25 rfl rfl rfl rfl ?_
 exact ⟨[dI 48 4 3 M k'], (by exact Sub.k .z), k', rfl, rfl⟩
theorem notM (base : World) [Tab Tryz.prog base] (L : List Lx.Item) (sb : Nat) (c d : DFA) (m n : DK) {z a : DFA} {p : List Nat → Bool} (hz : Valid z) (ha : InL z a p) (j : DK) (hj : ∀ w1, Inv base L w1 → At w1 a j) {M : DFA} (hM : notD a = M) :
  CallT Tryz.prog base 57 [.pointer (aD sb), dV a j] ([oI sb 59 (bC (vI 0) c d m n)] ++ L) (fun v O' => ∃ k' : DK, v = dV M k' ∧ O' = [dI 48 4 3 M k', oI sb 59 (bC (vI 0) c d m n)] ++ L) := by
 refine CallT.enter func57 rfl ntmps57 rfl ?_
 refine T.s (T.rg (TO.l rfl (l_box (v := (dV a j)) (cs := (dC a j)) rfl rfl (fun y1 => ?_))))
 refine TO.l rfl (l_alloc inf25 rfl (fun y2 => ?_))
 refine TO.nl (T.s (T.rg (TO.qm rfl (TO.q (q_la 1 uT25 rfl inf25 rfl rfl rfl) (TO.q (q_la 1 uT25 rfl inf25 rfl rfl rfl) ?_)))))
 have hk8 := CallT.under (A := [oI sb 59 (bC (vI 0) c d m n)] ++ L) (B := [oI y2 25 [(vI 0), (vI 0), nS, nS], oI y1 25 (dC a j)]) (O := ([oI y2 25 [(vI 0), (vI 0), nS, nS], oI y1 25 (dC a j), oI sb 59 (bC (vI 0) c d m n)] ++ L)) (doB base L sb c d m n a a j j 83 ent83 (fun w1 hI => haveI := tbz hI; not1Z w1 hz ha a j j (hj w1 hI) hM)) (Sub.tr (Sub.swap3 [oI sb 59 (bC (vI 0) c d m n)] L [oI y2 25 [(vI 0), (vI 0), nS, nS], oI y1 25 (dC a j)]) (by exact Sub.pull [oI y2 25 [(vI 0), (vI 0), nS, nS], oI y1 25 (dC a j)] _ (.k (.k .rf))))
 refine TO.l rfl (l_call ent37 hk8 rfl ?_)
 clear hk8
 rintro vr O' ⟨A1, rfl, k', rfl, rfl⟩
 refine TO.sub (O' := ([dI 48 4 3 M k', oI sb 59 (bC (vI 0) c d m n), oI y2 25 [(vI 0), (vI 0), nS, nS], oI y1 25 (dC a j)] ++ L)) (by exact Sub.swap3 [dI 48 4 3 M k', oI sb 59 (bC (vI 0) c d m n)] _ L) ?_
 refine TO.l rfl (l_sb (v := (dV M k')) (vs := (dC M k')) 2 inf25 rfl rfl rfl rfl rfl rfl (by simp [putL]) ?_)
 refine TO.nl (T.ret (Res.drop ?_))
 refine Res.cell1 (i := 2) Tryz.results57 uT25 rfl inf25 rfl rfl rfl ?_
 exact ⟨[dI 48 4 3 M k', oI sb 59 (bC (vI 0) c d m n)] ++ L, (Sub.pickR [0, 0] [dI 48 4 3 M k', oI sb 59 (bC (vI 0) c d m n), oI y2 25 (dC M k'), oI y1 25 (dC a j)] L rfl rfl), k', rfl, rfl⟩
theorem satM (base : World) [Tab Tryz.prog base] (L : List Lx.Item) (sb : Nat) (c d : DFA) (m n : DK) {z a g : DFA} {p q : List Nat → Bool} (hz : Valid z) (ha : InL z a p) (hg : InL z g q) (j k : DK) (hj : At base a j) (hk : At base g k) {M : DFA} (hM : satD a g = M) :
  CallT Tryz.prog base 65 [.pointer (aD sb), cV a g j k] ([oI sb 59 (bC (vI 0) c d m n)] ++ L) (fun v O' => ∃ k' : DK, v = dV M k' ∧ O' = [dI 48 4 3 M k', oI sb 59 (bC (vI 0) c d m n)] ++ L) := by
 refine CallT.enter func65 rfl ntmps65 rfl ?_
 have hN := (InL.not hz ha).2
 obtain ⟨mN, eN⟩ : ∃ m, notD a = m := ⟨_, rfl⟩
 rw [eN] at hN
 refine T.s (T.rg (TO.l rfl (l_box (v := (cV a g j k)) (cs := (cC a g j k)) rfl rfl (fun y1 => ?_))))
 refine TO.l rfl (l_alloc inf25 rfl (fun y2 => ?_))
 refine TO.nl (T.s (T.rg (TO.qm rfl (TO.q (q_fa uT27 rfl inf25 rfl rfl) (TO.q (q_load_part 1 (vs := (dC a j)) uT25 rfl inf25 rfl rfl rfl rfl) ?_)))))
 have hk9 := CallT.under (A := [oI sb 59 (bC (vI 0) c d m n)] ++ L) (B := [oI y2 25 [(vI 0), (vI 0), nS, nS], oI y1 27 (cC a g j k)]) (O := ([oI y2 25 [(vI 0), (vI 0), nS, nS], oI y1 27 (cC a g j k), oI sb 59 (bC (vI 0) c d m n)] ++ L)) (notM base L sb c d m n hz ha j (fun w1 hI => haveI := tbz hI; hI.atB hj) eN) (Sub.tr (Sub.swap3 [oI sb 59 (bC (vI 0) c d m n)] L [oI y2 25 [(vI 0), (vI 0), nS, nS], oI y1 27 (cC a g j k)]) (by exact Sub.pull [oI y2 25 [(vI 0), (vI 0), nS, nS], oI y1 27 (cC a g j k)] _ (.k (.k .rf))))
 refine TO.l rfl (l_call ent57 hk9 rfl ?_)
 clear hk9
 rintro vr O' ⟨A1, rfl, kN, rfl, rfl⟩
 refine TO.sub (O' := ([dI 48 4 3 mN kN, oI sb 59 (bC (vI 0) c d m n), oI y2 25 [(vI 0), (vI 0), nS, nS], oI y1 27 (cC a g j k)] ++ L)) (by exact Sub.swap3 [dI 48 4 3 mN kN, oI sb 59 (bC (vI 0) c d m n)] _ L) ?_
 refine TO.l rfl (l_alloc inf25 rfl (fun y3 => ?_))
 refine TO.l rfl (l_sb (v := (dV mN kN)) (vs := (dC mN kN)) 0 inf25 rfl rfl rfl rfl rfl rfl (by simp [putL]) ?_)
 refine TO.nl (T.s (T.rg (TO.qm rfl (TO.q (q_fa uT27 rfl inf25 rfl rfl) (TO.q (q_load_part 4 (vs := (dC g k)) uT25 rfl inf25 rfl rfl rfl rfl) (TO.q (q_la 0 uT25 rfl inf25 rfl rfl rfl) ?_))))))
 have hk14 := CallT.under (A := [oI sb 59 (bC (vI 0) c d m n), dI 48 4 3 mN kN] ++ L) (B := [oI y3 25 (dC mN kN), oI y2 25 [(vI 0), (vI 0), nS, nS], oI y1 27 (cC a g j k)]) (O := ([oI y3 25 (dC mN kN), dI 48 4 3 mN kN, oI sb 59 (bC (vI 0) c d m n), oI y2 25 [(vI 0), (vI 0), nS, nS], oI y1 27 (cC a g j k)] ++ L)) (doB base ([dI 48 4 3 mN kN] ++ L) sb c d m n g mN k kN 54 ent54 (fun w1 hI => haveI := tbz hI; orZ w1 hz hg hN k kN (hI.atB hk) (hI.at (k := kN) (mG 0 rfl)) (show opD orB g mN = M by rw [← hM, ← eN]; rfl))) (Sub.tr (Sub.swap3 [oI sb 59 (bC (vI 0) c d m n), dI 48 4 3 mN kN] L [oI y3 25 (dC mN kN), oI y2 25 [(vI 0), (vI 0), nS, nS], oI y1 27 (cC a g j k)]) (by exact Sub.pull [oI y3 25 (dC mN kN), dI 48 4 3 mN kN] _ (.pull [oI y3 25 (dC mN kN)] _ (.k (.k (.k .rf))))))
 refine TO.l rfl (l_call ent37 hk14 rfl ?_)
 clear hk14
 rintro vr O' ⟨A1, rfl, k', rfl, rfl⟩
 refine TO.sub (O' := ([dI 48 4 3 M k', oI sb 59 (bC (vI 0) c d m n), dI 48 4 3 mN kN, oI y3 25 (dC mN kN), oI y2 25 [(vI 0), (vI 0), nS, nS], oI y1 27 (cC a g j k)] ++ L)) (by exact Sub.swap3 [dI 48 4 3 M k', oI sb 59 (bC (vI 0) c d m n), dI 48 4 3 mN kN] _ L) ?_
 refine TO.l rfl (l_sb (v := (dV M k')) (vs := (dC M k')) 4 inf25 rfl rfl rfl rfl rfl rfl (by simp [putL]) ?_)
 refine TO.nl (T.ret (Res.drop ?_))
 refine Res.cell1 (i := 4) Tryz.results65 uT25 rfl inf25 rfl rfl rfl ?_
 exact ⟨[dI 48 4 3 M k', oI sb 59 (bC (vI 0) c d m n)] ++ L, (Sub.pickR [0, 0] [dI 48 4 3 M k', oI sb 59 (bC (vI 0) c d m n), dI 48 4 3 mN kN, oI y3 25 (dC mN kN), oI y2 25 (dC M k'), oI y1 27 (cC a g j k)] L rfl rfl), k', rfl, rfl⟩
theorem ansS (base : World) [Tab Tryz.prog base] (L : List Lx.Item) (sb : Nat) (a : DFA) (hv : Valid a) (j : DK) (hj : ∀ w1, Inv base L w1 → At w1 a j) :
  CallT Tryz.prog base 44 [.pointer (aD sb), dV a j] ([oI sb 57 [(vI 0)]] ++ L) (fun v O' => ∃ res wb wc, LeastA a res ∧ v = .tuple #[.slice wb (res.getD []).length wc, .bool (!res.isSome), vI 0] ∧ O' = [rowI wb wc 5 1 (byts (res.getD [])), oI sb 57 [(vI 0)]] ++ L) := by
 refine CallT.enter func44 rfl ntmps44 rfl ?_
 refine T.s (T.rg (TO.l rfl (l_box (v := (dV a j)) (cs := (dC a j)) rfl rfl (fun y1 => ?_))))
 refine TO.qa rfl (TO.qa rfl (TO.qa rfl (TO.nl (T.s (T.s (T.rg (TO.qm rfl (TO.q (q_nilCheck rfl) (TO.q (q_fa uT57 rfl inf30 rfl rfl) (TO.q (q_lb 1 uT30 rfl rfl rfl rfl) (TO.q (QT.toB (q_neq rfl rfl) (decide_eq_false (fun h => h rfl))) (TO.nl (T.cond0 rfl (T.skip (T.s (T.rg (TO.q (q_la 0 uT25 rfl inf25 rfl rfl rfl) (TO.l rfl (l_call ent73 (CallT.op fun w1 hI => (haveI := tbz hI; shoK w1 a j (hj w1 (hI.subp (Sub.appL [oI y1 25 (dC a j), oI sb 57 [(vI 0)]] Sub.rf))) hv)) rfl ?_)))))))))))))))))))
 rintro vr O' ⟨N, rfl, res, wb, wc, hL, rfl, rfl⟩
 refine TO.qm rfl (TO.q (q_extract (vs := _) rfl rfl) (TO.q (q_extract (vs := _) rfl rfl) (TO.q (q_extract (vs := _) rfl rfl) (TO.qa rfl (TO.qa rfl (TO.qa rfl (TO.nl (T.s (T.rg (TO.qm rfl (TO.qm rfl (TO.q (QT.toB (q_eql rfl rfl) (decide_eq_true rfl)) (TO.qm rfl (TO.gq rfl rfl (q_move rfl) (TO.gq rfl rfl (q_not rfl) (TO.q (q_pick1 rfl rfl) (TO.qm rfl (TO.qa rfl (TO.qa rfl (TO.qa rfl ?_))))))))))))))))))))
 refine TO.nl (T.ret (Res.drop ?_))
 refine Res.three (.slice wb ((res.getD []).length) wc) (.bool (!res.isSome)) (vI 0) Tryz.results44 rfl rfl rfl ?_
 exact ⟨[rowI wb wc 5 1 (byts (res.getD [])), oI sb 57 [(vI 0)]] ++ L, (Sub.pickR [0, 1] [rowI wb wc 5 1 (byts (res.getD [])), oI y1 25 (dC a j), oI sb 57 [(vI 0)]] L rfl rfl), res, wb, wc, hL, rfl, rfl⟩
theorem ansB (base : World) [Tab Tryz.prog base] (L : List Lx.Item) (sb : Nat) (c d : DFA) (m n : DK) (a : DFA) (hv : Valid a) (j : DK) (hj : ∀ w1, Inv base L w1 → At w1 a j) :
  CallT Tryz.prog base 44 [.pointer (aD sb), dV a j] ([oI sb 59 (bC (vI 0) c d m n)] ++ L) (fun v O' => ∃ res wb wc, LeastA a res ∧ v = .tuple #[.slice wb (res.getD []).length wc, .bool (!res.isSome), vI 0] ∧ O' = [rowI wb wc 5 1 (byts (res.getD [])), oI sb 59 (bC (vI 0) c d m n)] ++ L) := by
 refine CallT.enter func44 rfl ntmps44 rfl ?_
 refine T.s (T.rg (TO.l rfl (l_box (v := (dV a j)) (cs := (dC a j)) rfl rfl (fun y1 => ?_))))
 refine TO.qa rfl (TO.qa rfl (TO.qa rfl (TO.nl (T.s (T.s (T.rg (TO.qm rfl (TO.q (q_nilCheck rfl) (TO.q (q_fa uT57 rfl inf30 rfl rfl) (TO.q (q_lb 1 uT30 rfl rfl rfl rfl) (TO.q (QT.toB (q_neq rfl rfl) (decide_eq_false (fun h => h rfl))) (TO.nl (T.cond0 rfl (T.skip (T.s (T.rg (TO.q (q_la 0 uT25 rfl inf25 rfl rfl rfl) (TO.l rfl (l_call ent73 (CallT.op fun w1 hI => (haveI := tbz hI; shoK w1 a j (hj w1 (hI.subp (Sub.appL [oI y1 25 (dC a j), oI sb 59 (bC (vI 0) c d m n)] Sub.rf))) hv)) rfl ?_)))))))))))))))))))
 rintro vr O' ⟨N, rfl, res, wb, wc, hL, rfl, rfl⟩
 refine TO.qm rfl (TO.q (q_extract (vs := _) rfl rfl) (TO.q (q_extract (vs := _) rfl rfl) (TO.q (q_extract (vs := _) rfl rfl) (TO.qa rfl (TO.qa rfl (TO.qa rfl (TO.nl (T.s (T.rg (TO.qm rfl (TO.qm rfl (TO.q (QT.toB (q_eql rfl rfl) (decide_eq_true rfl)) (TO.qm rfl (TO.gq rfl rfl (q_move rfl) (TO.gq rfl rfl (q_not rfl) (TO.q (q_pick1 rfl rfl) (TO.qm rfl (TO.qa rfl (TO.qa rfl (TO.qa rfl ?_))))))))))))))))))))
 refine TO.nl (T.ret (Res.drop ?_))
 refine Res.three (.slice wb ((res.getD []).length) wc) (.bool (!res.isSome)) (vI 0) Tryz.results44 rfl rfl rfl ?_
 exact ⟨[rowI wb wc 5 1 (byts (res.getD [])), oI sb 59 (bC (vI 0) c d m n)] ++ L, (Sub.pickR [0, 1] [rowI wb wc 5 1 (byts (res.getD [])), oI y1 25 (dC a j), oI sb 59 (bC (vI 0) c d m n)] L rfl rfl), res, wb, wc, hL, rfl, rfl⟩
theorem built (base : World) [Tab Tryz.prog base] (L : List Lx.Item) (sb : Nat) (c d : DFA) (m n : DK) (a g : DFA) (j k : DK) :
  CallT Tryz.prog base 36 [.pointer (aD sb), dV a j, dV g k] ([oI sb 59 (bC (vI 0) c d m n)] ++ L) (fun v O' => v = .tuple #[cV a g j k, vI 0] ∧ O' = [oI sb 59 (bC (vI 0) c d m n)] ++ L) := by
 refine CallT.enter func36 rfl ntmps36 rfl ?_
 refine T.s (T.rg (TO.l rfl (l_box (v := (dV a j)) (cs := (dC a j)) rfl rfl (fun y1 => ?_))))
 refine TO.l rfl (l_box (v := (dV g k)) (cs := (dC g k)) rfl rfl (fun y2 => ?_))
 refine TO.l rfl (l_alloc inf27 rfl (fun y3 => ?_))
 refine TO.qa rfl (TO.nl (T.s (T.s (T.rg (TO.qm rfl (TO.q (q_nilCheck rfl) (TO.q (q_fa uT59 rfl inf57 rfl rfl) (TO.q (q_fa uT57 rfl inf30 rfl rfl) (TO.q (q_lb 3 uT30 rfl rfl rfl rfl) (TO.q (QT.toB (q_neq rfl rfl) (decide_eq_false (fun h => h rfl))) (TO.nl (T.cond0 rfl (T.skip (T.s (T.rg (TO.q (q_la 2 uT25 rfl inf25 rfl rfl rfl) (TO.q (q_la 1 uT25 rfl inf25 rfl rfl rfl) (TO.q (q_build (cs := (cC a g j k)) plan27 inf27 (by kernel_rfl)) (TO.l rfl (l_sb (v := (cV a g j k)) (vs := (cC a g j k)) 0 inf27 rfl rfl rfl rfl rfl rfl (by simp [putL]) ?_))))))))))))))))))))
 refine TO.qa rfl (TO.nl (T.ret (Res.drop ?_)))
 refine Res.cell1b (vI 0) (i := 0) Tryz.results36 uT27 rfl inf27 rfl rfl rfl rfl ?_
 exact ⟨[oI sb 59 (bC (vI 0) c d m n)] ++ L, (Sub.pickR [3] [oI y3 27 (cC a g j k), oI y2 25 (dC g k), oI y1 25 (dC a j), oI sb 59 (bC (vI 0) c d m n)] L rfl rfl), rfl, rfl⟩
theorem startC (w : World) [Tab Tryz.prog w] {z a1 g1 a2 g2 : DFA} {p1 q1 p2 q2 : List Nat → Bool} (hz : Valid z) (ha1 : InL z a1 p1) (hg1 : InL z g1 q1) (ha2 : InL z a2 p2) (hg2 : InL z g2 q2) (j1 k1 j2 k2 : DK) (hj1 : At w a1 j1) (hk1 : At w g1 k1) (hj2 : At w a2 j2) (hk2 : At w g2 k2) {S1 S2 : DFA} (e1 : satD a1 g1 = S1) (e2 : satD a2 g2 = S2) :
  PureT Tryz.prog 35 [cV a1 g1 j1 k1, cV a2 g2 j2 k2] w fun v N => ∃ (bp : Nat) (s1 s2 : DK), v = .pointer (aD bp) ∧ N = [oI bp 59 (bC (vI 0) S1 S2 s1 s2), dI 48 4 3 S1 s1, dI 48 4 3 S2 s2] := by
 refine CallT.enter func35 rfl ntmps35 rfl ?_
 refine T.s (T.rg (TO.l rfl (l_box (v := (cV a1 g1 j1 k1)) (cs := (cC a1 g1 j1 k1)) rfl rfl (fun y1 => ?_))))
 refine TO.l rfl (l_box (v := (cV a2 g2 j2 k2)) (cs := (cC a2 g2 j2 k2)) rfl rfl (fun y2 => ?_))
 refine TO.qa rfl (TO.nl (T.s (T.rg (TO.q (q_build plan59 inf59 rfl) (TO.l rfl (l_box (v := (.agg #[(vI 0), (vI 0), (vI 0), nS, nS, (vI 0), (vI 0), nS, nS])) (cs := [(vI 0), (vI 0), (vI 0), nS, nS, (vI 0), (vI 0), nS, nS]) rfl rfl (fun y3 => ?_)))))))
 refine TO.qa rfl (TO.nl (T.s (T.s (T.rg (TO.q (q_la 2 uT27 rfl inf27 rfl rfl rfl) (TO.q (q_la 1 uT27 rfl inf27 rfl rfl rfl) (TO.q (q_buildA (cs := [(vI a1.vars), (vI a1.start), (.slice j1.nb a1.next.length j1.nc), (.slice j1.fb a1.final.length j1.fc), (vI g1.vars), (vI g1.start), (.slice k1.nb g1.next.length k1.nc), (.slice k1.fb g1.final.length k1.fc), (vI a2.vars), (vI a2.start), (.slice j2.nb a2.next.length j2.nc), (.slice j2.fb a2.final.length j2.fc), (vI g2.vars), (vI g2.start), (.slice k2.nb g2.next.length k2.nc), (.slice k2.fb g2.final.length k2.fc)]) uT81 inf27 inf81 (by kernel_rfl)) (TO.qm rfl (TO.nl (T.block ?_))))))))))
 refine T.rounds 3 (T.round ?_)
 refine T.s (T.rg (TO.q (QT.toB (q_lss rfl rfl) (b' := true) rfl) (TO.nl (T.s ?_))))
 refine T.cond1 rfl ?_
 refine T.skip (T.s (T.block (T.s (T.rg (TO.q (q_indexA (i := 0) (vs := (cC a1 g1 j1 k1)) uT81 uT27 rfl inf27 rfl rfl (by decide) rfl) (TO.l rfl (l_alloc inf27 rfl (fun y4 => ?_))))))))
 refine TO.l rfl (l_sb (v := (cV a1 g1 j1 k1)) (vs := (cC a1 g1 j1 k1)) 0 inf27 rfl rfl rfl rfl rfl rfl (by simp [putL]) ?_)
 refine TO.nl (T.s (T.rg (TO.qm rfl (TO.q (q_nilCheck rfl) (TO.q (q_fa uT59 rfl inf57 rfl rfl) (TO.q (q_fa uT57 rfl inf30 rfl rfl) (TO.q (q_lb 1 uT30 rfl rfl rfl rfl) (TO.q (QT.toB (q_eql rfl rfl) (decide_eq_true rfl)) (TO.nl ?_)))))))))
 refine T.cond1 rfl ?_
 refine T.rg (TO.qm rfl (TO.q (q_la 0 uT27 rfl inf27 rfl rfl rfl) ?_))
 refine TO.l rfl (l_call ent8 (CallT.op fun w1 hI => (haveI := tbz hI; (show PureT _ _ _ _ _ from by
   have h9 := conCheck w1 a1 g1 j1 k1 (hI.atB hj1) (hI.atB hk1) ha1.bds hg1.bds
   rw [cE_ok (checkD_zero.2 ha1.has.valid) (checkD_zero.2 hg1.has.valid) (by rw [ha1.has.vars, hg1.has.vars])] at h9
   exact h9))) rfl ?_)
 rintro vr O' ⟨N, rfl, rfl, rfl⟩
 refine TO.q (q_nilCheck rfl) (TO.q (q_fa uT59 rfl inf57 rfl rfl) (TO.q (q_fa uT57 rfl inf30 rfl rfl) (TO.l rfl (l_sb (v := vI 0) (vs := [(vI 0)]) 1 inf30 rfl rfl rfl rfl rfl rfl (by simp [putL]) ?_))))
 refine TO.nl (T.rg (TO.q (QT.cast (q_add64 rfl rfl (by omega)) (v' := vI 1) rfl) (TO.qm rfl (TO.nl ?_))))
 refine Rnd.reset [oI y4 27 (cC a1 g1 j1 k1), oI y3 59 [(vI 0), (vI 0), (vI 0), nS, nS, (vI 0), (vI 0), nS, nS], oI y2 27 (cC a2 g2 j2 k2), oI y1 27 (cC a1 g1 j1 k1)] [(0, (cV a1 g1 j1 k1)), (1, (cV a2 g2 j2 k2)), (2, (.pointer (aD y1))), (3, (.pointer (aD y2))), (4, .pointer none), (5, (.pointer (aD y3))), (7, (.pointer (aD y4))), (9, (.agg #[(vI 0), (vI 0), (vI 0), nS, nS, (vI 0), (vI 0), nS, nS])), (10, (.pointer (aD y3))), (11, (cV a1 g1 j1 k1)), (12, (cV a2 g2 j2 k2)), (13, (.agg #[(vI a1.vars), (vI a1.start), (.slice j1.nb a1.next.length j1.nc), (.slice j1.fb a1.final.length j1.fc), (vI g1.vars), (vI g1.start), (.slice k1.nb g1.next.length k1.nc), (.slice k1.fb g1.final.length k1.fc), (vI a2.vars), (vI a2.start), (.slice j2.nb a2.next.length j2.nc), (.slice j2.fb a2.final.length j2.fc), (vI g2.vars), (vI g2.start), (.slice k2.nb g2.next.length k2.nc), (.slice k2.fb g2.final.length k2.fc)])), (14, vI 1)] rfl (.of rfl) (fun ρ0 => ?_)
 refine T.round ?_
 refine T.s (T.rg (TO.q (QT.toB (q_lss rfl rfl) (b' := true) rfl) (TO.nl (T.s ?_))))
 refine T.cond1 rfl ?_
 refine T.skip (T.s (T.block (T.s (T.rg (TO.q (q_indexA (i := 1) (vs := (cC a2 g2 j2 k2)) uT81 uT27 rfl inf27 rfl rfl (by decide) rfl) (TO.l rfl (l_alloc inf27 rfl (fun y5 => ?_))))))))
 refine TO.l rfl (l_sb (v := (cV a2 g2 j2 k2)) (vs := (cC a2 g2 j2 k2)) 0 inf27 rfl rfl rfl rfl rfl rfl (by simp [putL]) ?_)
 refine TO.nl (T.s (T.rg (TO.qm rfl (TO.q (q_nilCheck rfl) (TO.q (q_fa uT59 rfl inf57 rfl rfl) (TO.q (q_fa uT57 rfl inf30 rfl rfl) (TO.q (q_lb 2 uT30 rfl rfl rfl rfl) (TO.q (QT.toB (q_eql rfl rfl) (decide_eq_true rfl)) (TO.nl ?_)))))))))
 refine T.cond1 rfl ?_
 refine T.rg (TO.qm rfl (TO.q (q_la 0 uT27 rfl inf27 rfl rfl rfl) ?_))
 refine TO.l rfl (l_call ent8 (CallT.op fun w1 hI => (haveI := tbz hI; (show PureT _ _ _ _ _ from by
   have h9 := conCheck w1 a2 g2 j2 k2 (hI.atB hj2) (hI.atB hk2) ha2.bds hg2.bds
   rw [cE_ok (checkD_zero.2 ha2.has.valid) (checkD_zero.2 hg2.has.valid) (by rw [ha2.has.vars, hg2.has.vars])] at h9
   exact h9))) rfl ?_)
 rintro vr O' ⟨N, rfl, rfl, rfl⟩
 refine TO.q (q_nilCheck rfl) (TO.q (q_fa uT59 rfl inf57 rfl rfl) (TO.q (q_fa uT57 rfl inf30 rfl rfl) (TO.l rfl (l_sb (v := vI 0) (vs := [(vI 0)]) 2 inf30 rfl rfl rfl rfl rfl rfl (by simp [putL]) ?_))))
 refine TO.nl (T.rg (TO.q (QT.cast (q_add64 rfl rfl (by omega)) (v' := vI 2) rfl) (TO.qm rfl (TO.nl ?_))))
 refine Rnd.reset [oI y5 27 (cC a2 g2 j2 k2), oI y4 27 (cC a1 g1 j1 k1), oI y3 59 [(vI 0), (vI 0), (vI 0), nS, nS, (vI 0), (vI 0), nS, nS], oI y2 27 (cC a2 g2 j2 k2), oI y1 27 (cC a1 g1 j1 k1)] [(0, (cV a1 g1 j1 k1)), (1, (cV a2 g2 j2 k2)), (2, (.pointer (aD y1))), (3, (.pointer (aD y2))), (4, .pointer none), (5, (.pointer (aD y3))), (7, (.pointer (aD y5))), (9, (.agg #[(vI 0), (vI 0), (vI 0), nS, nS, (vI 0), (vI 0), nS, nS])), (10, (.pointer (aD y3))), (11, (cV a1 g1 j1 k1)), (12, (cV a2 g2 j2 k2)), (13, (.agg #[(vI a1.vars), (vI a1.start), (.slice j1.nb a1.next.length j1.nc), (.slice j1.fb a1.final.length j1.fc), (vI g1.vars), (vI g1.start), (.slice k1.nb g1.next.length k1.nc), (.slice k1.fb g1.final.length k1.fc), (vI a2.vars), (vI a2.start), (.slice j2.nb a2.next.length j2.nc), (.slice j2.fb a2.final.length j2.fc), (vI g2.vars), (vI g2.start), (.slice k2.nb g2.next.length k2.nc), (.slice k2.fb g2.final.length k2.fc)])), (14, vI 2)] rfl (.of rfl) (fun ρ0 => ?_)
 refine T.round ?_
 refine T.s (T.rg (TO.q (QT.toB (q_lss rfl rfl) (b' := false) rfl) (TO.nl (T.s (T.cond0 rfl ?_)))))
 refine T.exit ?_
 refine T.s (T.s (T.rg (TO.qm rfl (TO.q (q_nilCheck rfl) (TO.q (q_fa uT59 rfl inf57 rfl rfl) (TO.q (q_fa uT57 rfl inf30 rfl rfl) (TO.q (q_lb 2 uT30 rfl rfl rfl rfl) (TO.q (QT.toB (q_eql rfl rfl) (decide_eq_true rfl)) (TO.qm rfl (TO.gq rfl rfl (q_fa uT27 rfl inf25 rfl rfl) (TO.gq rfl rfl (q_fa uT25 rfl inf3 rfl rfl) (TO.gq rfl rfl (q_lb 4 uT3 rfl rfl rfl rfl) (TO.gq rfl rfl (q_fa uT27 rfl inf25 rfl rfl) (TO.gq rfl rfl (q_fa uT25 rfl inf3 rfl rfl) ?_))))))))))))))
 refine TO.gq rfl rfl (q_lb 3 uT3 rfl rfl rfl rfl) (TO.gq rfl rfl (QT.toB (q_neq rfl rfl) (decide_eq_false (fun h => h (by rw [ha1.has.vars, ha2.has.vars])))) (TO.q (q_pick1 rfl rfl) (TO.nl (T.cond0 rfl (T.skip (T.s (T.rg (TO.qm rfl (TO.q (q_nilCheck rfl) (TO.q (q_fa uT59 rfl inf57 rfl rfl) (TO.q (q_makeFunc) (TO.qa rfl ?_))))))))))))
 refine TO.nl (T.s (T.rg (TO.qm rfl (TO.qm rfl (TO.q (q_la 4 uT27 rfl inf27 rfl rfl rfl) ?_)))))
 have hk56 := CallV.under (A := [oI y3 59 (bC (vI 0) noD noD k00 k00)]) (B := [oI y5 27 (cC a2 g2 j2 k2), oI y4 27 (cC a1 g1 j1 k1), oI y2 27 (cC a2 g2 j2 k2), oI y1 27 (cC a1 g1 j1 k1)]) (O := [oI y5 27 (cC a2 g2 j2 k2), oI y4 27 (cC a1 g1 j1 k1), oI y3 59 [(vI 0), (vI 0), (vI 0), nS, nS, (vI 0), (vI 0), nS, nS], oI y2 27 (cC a2 g2 j2 k2), oI y1 27 (cC a1 g1 j1 k1)]) (CallV.of_fn (first := [(.pointer (aD y3))]) (args := [cV a1 g1 j1 k1]) (caps := []) ent65 (satM w [] y3 noD noD k00 k00 hz ha1 hg1 j1 k1 hj1 hk1 e1)) (by exact Sub.pull [oI y5 27 (cC a2 g2 j2 k2), oI y4 27 (cC a1 g1 j1 k1)] _ (.k (.k (.k (.k .z)))))
 refine TO.l rfl (l_callG hk56 rfl rfl ?_)
 clear hk56
 rintro vr O' ⟨A1, rfl, s1, rfl, rfl⟩
 refine TO.q (q_nilCheck rfl) (TO.q (q_fa uT59 rfl inf25 rfl rfl) (TO.l rfl (l_sb (v := (dV S1 s1)) (vs := (dC S1 s1)) 1 inf25 rfl rfl rfl rfl rfl rfl (by simp [putL]) ?_)))
 refine TO.nl (T.s (T.rg (TO.qm rfl (TO.qm rfl (TO.q (q_la 4 uT27 rfl inf27 rfl rfl rfl) ?_)))))
 have hk62 := CallV.under (A := [oI y3 59 (bC (vI 0) S1 noD s1 k00)]) (B := [dI 48 4 3 S1 s1, oI y5 27 (cC a2 g2 j2 k2), oI y4 27 (cC a1 g1 j1 k1), oI y2 27 (cC a2 g2 j2 k2), oI y1 27 (cC a1 g1 j1 k1)]) (O := [dI 48 4 3 S1 s1, oI y3 59 (bC (vI 0) S1 noD s1 k00), oI y5 27 (cC a2 g2 j2 k2), oI y4 27 (cC a1 g1 j1 k1), oI y2 27 (cC a2 g2 j2 k2), oI y1 27 (cC a1 g1 j1 k1)]) (CallV.of_fn (first := [(.pointer (aD y3))]) (args := [cV a2 g2 j2 k2]) (caps := []) ent65 (satM w [] y3 S1 noD s1 k00 hz ha2 hg2 j2 k2 hj2 hk2 e2)) (by exact Sub.pull [dI 48 4 3 S1 s1] _ (.k (.k (.k (.k (.k .z))))))
 refine TO.l rfl (l_callG hk62 rfl rfl ?_)
 clear hk62
 rintro vr O' ⟨A1, rfl, s2, rfl, rfl⟩
 refine TO.q (q_nilCheck rfl) (TO.q (q_fa uT59 rfl inf25 rfl rfl) (TO.l rfl (l_sb (v := (dV S2 s2)) (vs := (dC S2 s2)) 1 inf25 rfl rfl rfl rfl rfl rfl (by simp [putL]) ?_)))
 refine TO.nl (T.s (T.rg (TO.qm rfl (TO.qa rfl (TO.nl (T.ret (Res.drop ?_)))))))
 refine Res.one (.pointer (aD y3)) Tryz.results35 rfl ?_
 exact ⟨[oI y3 59 (bC (vI 0) S1 S2 s1 s2), dI 48 4 3 S1 s1, dI 48 4 3 S2 s2], (Sub.pick [1, 1, 0] rfl), _, s1, s2, rfl, rfl⟩
end Go.Proofs.YtnpehjpookcfkaaGreatDoor

