/- Contracts of functions of the program (Yo): what each call answers and that it leaves memory as it was. Conditions: those each theorem names. -/
import Derived.Test.YtnikhiohindggaaDoorCoreL
import Derived.Test.YtnikhiohindggaaDoorZi
import Derived.Test.YtnikhiohindggaaDoorRcnK
import Derived.Test.YtnikhiohindggaaDoorYs
set_option linter.unusedSectionVars false
set_option linter.unusedSimpArgs false
set_option linter.unusedVariables false
set_option linter.unnecessarySimpa false
set_option maxHeartbeats 8000000
set_option maxRecDepth 20000
namespace Go.Proofs.YtnikhiohindggaaDoor
open Go.Lx Go.RowKit _root_.Go.Proofs.Tryd
theorem repeatsF (w : World) [Tab Tryd.prog w] (l : La) (pb lb : Option Addr) (pc lc : Nat) (h : LaAt w l pb lb pc lc) (hL : LaB l) (h0 : 0 < l.loop.length) (a p : Nat) (ha : a ≤ 1000000) (hp : p ≤ 1000000) :
  PureT Tryd.prog 69 [.agg (laCells l pb pc lb lc).toArray, vI (a : Int), vI (p : Int)] w fun v N => ∃ r : Bool, v = .bool r ∧ N = [] ∧ (r = true ↔ ∀ i, a ≤ i → l.at i = l.at (i + p)) := by
 refine CallT.enter func69 rfl ntmps69 rfl ?_
 have hpl := hL.pre; have hll := hL.loop; have hln : l.n = l.pre.length + l.loop.length := rfl
 refine T.s (T.rg (TO.l rfl (l_box (v := (.agg (laCells l pb pc lb lc).toArray)) (cs := (laCells l pb pc lb lc)) rfl rfl (fun bx1 => ?_))))
 refine TO.qa rfl (TO.nl (T.s (T.rg (TO.q (q_la 0 underlying28 rfl inf28 rfl rfl rfl) ?_))))
 have hk9 := fun (w1 : World) (hI : Inv w [oI bx1 28 (laCells l pb pc lb lc)] w1) => (haveI := Inv.tab (P := Tryd.prog) hI; refFullF w1 l pb lb pc lc h0)
 refine TO.l rfl (l_call ent68 (CallT.op hk9) rfl ?_)
 clear hk9
 rintro vr O' ⟨N, rfl, rfl, rfl⟩
 refine TO.l rfl (l_sb (v := (.agg (laCells l pb pc lb lc).toArray)) (vs := (laCells l pb pc lb lc)) 0 inf28 rfl rfl rfl rfl rfl rfl (by simp [putL]) ?_)
 refine TO.nl (T.s (T.s (T.rg (TO.qm rfl (TO.qa rfl (TO.nl (T.block ?_)))))))
 refine T.loop (fun (i : Nat) ρ O => O = [oI bx1 28 (laCells l pb pc lb lc)] ∧ a ≤ i ∧ i ≤ l.n + a + l.loop.length ∧ (∀ x, a ≤ x → x < i → l.at x = l.at (x + p)) ∧ Heads [(0, (.agg (laCells l pb pc lb lc).toArray)), (1, vI (a : Int)), (2, vI (p : Int)), (3, (.pointer (aD bx1))), (7, vI (i : Int))] ρ) (fun i => l.n + a + l.loop.length - i) a ?_ ?_
 ·exact ⟨rfl, Nat.le_refl _, by omega, (fun x h1 h2 => by omega), (.of rfl)⟩
 rintro i ρ O ⟨rfl, hi, hi2, hx, hH⟩
 obtain ⟨ρ0, rfl⟩ := hH.elim
 clear hH
 refine T.s (T.s (T.rg (TO.qm rfl (TO.q (q_fa underlying28 rfl inf26 rfl rfl) (TO.q (q_lb 0 underlying26 rfl rfl rfl rfl) (TO.q (q_len underlying26 rfl) (TO.q (q_fa underlying28 rfl inf26 rfl rfl) (TO.q (q_lb 0 underlying26 rfl rfl rfl rfl) (TO.q (q_len underlying26 rfl) (TO.q (q_addN (a := l.pre.length) (b := l.loop.length) rfl rfl (by omega)) (TO.q (q_lss rfl rfl) ?_)))))))))))
 by_cases hs20 : (i : Int) < ((l.pre.length + l.loop.length : Nat) : Int)
 ·refine TO.q (QT.toB (q_move rfl) (decide_eq_true hs20)) ?_
  refine TO.pd rfl rfl (TO.pd rfl rfl (TO.pd rfl rfl (TO.pd rfl rfl (TO.pd rfl rfl (TO.pd rfl rfl (TO.pd rfl rfl (TO.q (q_pick1 rfl rfl) ?_)))))))
  refine TO.nl ?_
  refine T.cond1 rfl ?_
  refine T.skip (T.s (T.block (T.s ?_)))
  refine T.draws _ [(0, 0), (1, 0), (3, 0), (4, 0), (5, 0), (6, 0), (2, 1), (7, 2), (8, 2)] mixed (by kernel_rfl) (Sub.of (List.Sublist.refl _)) (fun _ _ _ h => h) ?_
  refine DO.q rfl (q_la 0 underlying28 rfl inf28 rfl rfl rfl) (DO.q rfl (q_move rfl) (DO.q rfl (q_la 0 underlying28 rfl inf28 rfl rfl rfl) (DO.q rfl (q_move rfl) (DO.q rfl (q_move rfl) (DO.q rfl (q_addN (a := i) (b := p) rfl rfl (by omega)) ?_)))))
  have hk33 := fun (w1 : World) (hI : Inv w [oI bx1 28 (laCells l pb pc lb lc)] w1) => (haveI := Inv.tab (P := Tryd.prog) hI; refAtF w1 l pb lb pc lc (hI.la h) hL h0 i (by omega))
  refine DO.loud rfl rfl (l_call ent91 (CallT.op hk33) rfl ?_)
  clear hk33
  rintro vr O' ⟨N, rfl, rfl, rfl⟩
  refine ⟨Sub.pick [0] rfl, ?_⟩
  have hk38 := fun (w1 : World) (hI : Inv w [oI bx1 28 (laCells l pb pc lb lc)] w1) => (haveI := Inv.tab (P := Tryd.prog) hI; refAtF w1 l pb lb pc lc (hI.la h) hL h0 (i + p) (by omega))
  refine DO.last rfl rfl (l_call ent91 (CallT.op hk38) rfl ?_)
  clear hk38
  rintro vr O' ⟨N, rfl, rfl, rfl⟩
  refine DO.last rfl rfl (LT.oq rfl rfl (q_neq rfl rfl) ?_)
  refine DO.done ?_
  refine T.condP rfl (fun hc => ?_) (fun hc => ?_)
  ·have hlt39 : l.at i ≠ l.at (i + p) := by omega
   refine T.s (T.rg (TO.qa rfl (TO.nl (T.ret (Res.drop ?_)))))
   refine Res.one (.bool false) Tryd.results69 rfl ?_
   exact ⟨[], (Sub.pick [] rfl), false, rfl, rfl, ⟨fun h9 => (by cases h9), fun h9 => absurd (h9 i hi) (by omega)⟩⟩
  have hge39 : ¬ l.at i ≠ l.at (i + p) := by omega
  refine T.skip (T.rg (TO.qm rfl (TO.q (q_addN (a := i) (b := 1) rfl rfl (by omega)) (TO.qa rfl (TO.nl ?_)))))
  refine ⟨i + 1, by omega, rfl, by omega, by omega, fun x h1 h2 => ?_, (.of rfl)⟩
  by_cases e : x = i
  ·subst e; omega
  ·exact hx x h1 (by omega)
 refine TO.q (QT.toB (q_move rfl) (decide_eq_false hs20)) (TO.gq rfl rfl (q_move rfl) (TO.gq rfl rfl (q_move rfl) (TO.gq rfl rfl (q_fa underlying28 rfl inf26 rfl rfl) (TO.gq rfl rfl (q_lb 0 underlying26 rfl rfl rfl rfl) (TO.gq rfl rfl (q_len underlying26 rfl) (TO.gq rfl rfl (q_addN (a := a) (b := l.loop.length) rfl rfl (by omega)) (TO.gq rfl rfl (q_lss rfl rfl) ?_)))))))
 refine TO.q (q_pick0 rfl rfl) (TO.nl (T.condP rfl (fun hc => ?_) (fun hc => ?_)))
 ·have hlt28 : i < a + l.loop.length := by omega
  refine T.skip (T.s (T.block (T.s ?_)))
  refine T.draws _ [(0, 0), (1, 0), (3, 0), (4, 0), (5, 0), (6, 0), (2, 1), (7, 2), (8, 2)] mixed (by kernel_rfl) (Sub.of (List.Sublist.refl _)) (fun _ _ _ h => h) ?_
  refine DO.q rfl (q_la 0 underlying28 rfl inf28 rfl rfl rfl) (DO.q rfl (q_move rfl) (DO.q rfl (q_la 0 underlying28 rfl inf28 rfl rfl rfl) (DO.q rfl (q_move rfl) (DO.q rfl (q_move rfl) (DO.q rfl (q_addN (a := i) (b := p) rfl rfl (by omega)) ?_)))))
  have hk33 := fun (w1 : World) (hI : Inv w [oI bx1 28 (laCells l pb pc lb lc)] w1) => (haveI := Inv.tab (P := Tryd.prog) hI; refAtF w1 l pb lb pc lc (hI.la h) hL h0 i (by omega))
  refine DO.loud rfl rfl (l_call ent91 (CallT.op hk33) rfl ?_)
  clear hk33
  rintro vr O' ⟨N, rfl, rfl, rfl⟩
  refine ⟨Sub.pick [0] rfl, ?_⟩
  have hk38 := fun (w1 : World) (hI : Inv w [oI bx1 28 (laCells l pb pc lb lc)] w1) => (haveI := Inv.tab (P := Tryd.prog) hI; refAtF w1 l pb lb pc lc (hI.la h) hL h0 (i + p) (by omega))
  refine DO.last rfl rfl (l_call ent91 (CallT.op hk38) rfl ?_)
  clear hk38
  rintro vr O' ⟨N, rfl, rfl, rfl⟩
  refine DO.last rfl rfl (LT.oq rfl rfl (q_neq rfl rfl) ?_)
  refine DO.done ?_
  refine T.condP rfl (fun hc => ?_) (fun hc => ?_)
  ·have hlt39 : l.at i ≠ l.at (i + p) := by omega
   refine T.s (T.rg (TO.qa rfl (TO.nl (T.ret (Res.drop ?_)))))
   refine Res.one (.bool false) Tryd.results69 rfl ?_
   exact ⟨[], (Sub.pick [] rfl), false, rfl, rfl, ⟨fun h9 => (by cases h9), fun h9 => absurd (h9 i hi) (by omega)⟩⟩
  have hge39 : ¬ l.at i ≠ l.at (i + p) := by omega
  refine T.skip (T.rg (TO.qm rfl (TO.q (q_addN (a := i) (b := 1) rfl rfl (by omega)) (TO.qa rfl (TO.nl ?_)))))
  refine ⟨i + 1, by omega, rfl, by omega, by omega, fun x h1 h2 => ?_, (.of rfl)⟩
  by_cases e : x = i
  ·subst e; omega
  ·exact hx x h1 (by omega)
 have hge28 : ¬ i < a + l.loop.length := by omega
 refine T.exit ?_
 refine T.s (T.rg (TO.qa rfl (TO.nl (T.ret (Res.drop ?_)))))
 refine Res.one (.bool true) Tryd.results69 rfl ?_
 exact ⟨[], (Sub.pick [] rfl), true, rfl, rfl, ⟨fun _ => rep_all h0 (e := i) ⟨by omega, by omega⟩ hx, fun _ => rfl⟩⟩
theorem cutF (w : World) [Tab Tryd.prog w] (l : La) (pb lb : Option Addr) (pc lc : Nat) (h : LaAt w l pb lb pc lc) (hL : LaB l) (h0 : 0 < l.loop.length) (a p : Nat) (ha : a ≤ 1000000) (hp : p ≤ 1000000) :
  PureT Tryd.prog 70 [.agg (laCells l pb pc lb lc).toArray, vI (a : Int), vI (p : Int)] w fun v N => ∃ pb2 lb2 pc2 lc2, v = .agg (laCells (cutL l a p) pb2 pc2 lb2 lc2).toArray ∧ N = [rowI pb2 pc2 5 1 (byts (cutL l a p).pre), rowI lb2 lc2 5 1 (byts (cutL l a p).loop)] := by
 refine CallT.enter func70 rfl ntmps70 rfl ?_
 have hpl := hL.pre; have hll := hL.loop; have hln : l.n = l.pre.length + l.loop.length := rfl
 refine T.s (T.rg (TO.l rfl (l_box (v := (.agg (laCells l pb pc lb lc).toArray)) (cs := (laCells l pb pc lb lc)) rfl rfl (fun bx1 => ?_))))
 refine TO.l rfl (l_alloc inf28 rfl (fun bx2 => ?_))
 refine TO.nl (T.s (T.rg (TO.qa rfl (TO.nl (T.s (T.s (T.rg (TO.qa rfl (TO.nl (T.block (T.nilRow 5 1 ?_)))))))))))
 refine T.loopS (fun (k : Nat) ρ O => ∃ (qb : Option Addr) (qc : Nat), O = [rowI qb qc 5 1 (byts (lets l k)), oI bx2 28 [nS, nS], oI bx1 28 (laCells l pb pc lb lc)] ∧ k ≤ a + p ∧ Heads [(0, (.agg (laCells l pb pc lb lc).toArray)), (1, vI (a : Int)), (2, vI (p : Int)), (3, (.pointer (aD bx1))), (6, (.pointer (aD bx2))), (7, (.slice qb k qc)), (8, vI (k : Int))] ρ) (fun k => (a + p) - k) 0 ?_ ?_
 ·exact ⟨none, 0, rfl, Nat.zero_le _, (.of rfl)⟩
 rintro k ρ O ⟨qb, qc, rfl, hk, hH⟩
 obtain ⟨ρ0, rfl⟩ := hH.elim
 clear hH
 refine T.s (T.s (T.rg (TO.qm rfl (TO.qm rfl (TO.qm rfl (TO.q (q_addN (a := a) (b := p) rfl rfl (by omega)) (TO.q (q_lss rfl rfl) (TO.nl (T.condP rfl (fun hc => ?_) (fun hc => ?_))))))))))
 ·have hlt13 : k < a + p := by omega
  have hat : l.at k < 256 := La.at_lt h0 hL.p8 hL.l8 k
  refine T.skip (T.s (T.block (T.rg (TO.qm rfl (TO.q (q_la 2 underlying28 rfl inf28 rfl rfl rfl) (TO.qm rfl ?_))))))
  have hk19 := fun (w1 : World) (hI : Inv w [rowI qb qc 5 1 (byts (lets l k)), oI bx2 28 [nS, nS], oI bx1 28 (laCells l pb pc lb lc)] w1) => (haveI := Inv.tab (P := Tryd.prog) hI; refAtF w1 l pb lb pc lc (hI.la h) hL h0 k (by omega))
  refine TO.l rfl (l_call ent91 (CallT.op hk19) rfl ?_)
  clear hk19
  rintro vr O' ⟨N, rfl, rfl, rfl⟩
  refine TO.l rfl (l_build1 (v := .int .u8 ((l.at k : Nat) : Int)) underlying26 inf5 rfl rfl rfl (fun bx3 => ?_))
  refine TO.l rfl (l_append 1 underlying26 underlying26 inf5 rfl rfl rfl rfl (by rw [List.length_map, lets_len, Nat.mul_one]) (by decide) (Src.row (j := 0) rfl (by simp)) (by simp [oneB]) (by omega) (by decide) (by decide) (fun bx4 c5 => ?_))
  refine TO.qa rfl (TO.nl (T.rg (TO.qm rfl (TO.q (q_addN (a := k) (b := 1) rfl rfl (by omega)) (TO.qa rfl (TO.nl ?_))))))
  refine ⟨k + 1, by omega, [rowI bx4 c5 5 1 ((byts (lets l k)) ++ [.int .u8 ((l.at k : Nat) : Int)]), oI bx2 28 [nS, nS], oI bx1 28 (laCells l pb pc lb lc)], (Sub.pick [1, 1, 1] rfl), bx4, c5, ?_, by omega, (.of rfl)⟩
  rw [lets_succ, show byts (lets l k ++ [l.at k]) = byts (lets l k) ++ [.int .u8 ((l.at k : Nat) : Int)] from List.map_append]
 have hge13 : ¬ k < a + p := by omega
 refine T.exit ?_
 refine T.s ?_
 have hke : k = a + p := by omega
 refine T.have (φ := (lets l k).length ≤ qc) (fun w hI => by have := rowP.cap (hI.row (i := 0) rfl); simpa using this) (fun hcap => ?_)
 rw [lets_len] at hcap
 refine T.draws [rowI qb qc 5 1 (byts (lets l k))] [(0, 0), (1, 0), (2, 0), (4, 0), (5, 0), (6, 0), (3, 1), (7, 2), (8, 2), (9, 2)] mixed (by kernel_rfl) (Sub.pick [0] rfl) (fun _ _ _ h => h) ?_
 refine DO.q rfl (q_move rfl) (DO.q rfl (q_move rfl) (DO.q rfl (q_sliceTo (hi := a) underlying26 inf5 rfl rfl (by omega)) (DO.q rfl (q_move rfl) (DO.q rfl (q_move rfl) (DO.q rfl (q_sliceFrom (lo := a) underlying26 inf5 rfl rfl (by omega) (by omega)) ?_)))))
 refine DO.loud rfl rfl (l_appendN (l := a) underlying26 underlying26 inf5 rfl rfl rfl (by decide) (Src.own (fun w hI => Sl.btake (hI.slOf (mG 0 rfl)) a) (by rw [List.length_map, List.length_take, lets_len]; omega)) (byts_one _) (by omega) (by decide) (by decide) (fun bx6 c7 => ⟨Sub.pick [1] rfl, ?_⟩))
 refine DO.last rfl rfl (l_appendN (l := (k - a)) underlying26 underlying26 inf5 rfl rfl rfl (by decide) (Src.own (fun w hI => Sl.bdrop (hI.slOf (mG 1 rfl)) a (by rw [lets_len]; exact hcap)) (by rw [List.length_map, List.length_drop, lets_len]; omega)) (byts_one _) (by omega) (by decide) (by decide) (fun bx8 c9 => ?_))
 refine DO.last rfl rfl (LT.oq rfl rfl (q_build (cs := [(.slice bx6 a c7), (.slice bx8 (k - a) c9)]) plan28 inf28 (by kernel_rfl)) ?_)
 refine DO.last rfl rfl (l_sb (v := (.agg #[(.slice bx6 a c7), (.slice bx8 (k - a) c9)])) (vs := [(.slice bx6 a c7), (.slice bx8 (k - a) c9)]) 3 inf28 rfl rfl rfl rfl rfl rfl (by simp [putL]) ?_)
 refine DO.done ?_
 refine T.ret (Res.drop ?_)
 refine Res.cell1 (i := 3) Tryd.results70 underlying28 rfl inf28 rfl rfl rfl ?_
 have hap : a + p - a = p := by omega
 have hp1 := cutL_pre l a p; have hp2 := cutL_loop l a p
 rw [hke]
 exact ⟨[rowI bx6 c7 5 1 (byts ((lets l (a + p)).take a)), rowI bx8 c9 5 1 (byts ((lets l (a + p)).drop a))], (Sub.pick [1, 0] rfl), bx6, bx8, c7, c9, by unfold laCells; rw [hp1, hp2, hap]; simp [putL], rfl⟩
theorem refCanonF (w : World) [Tab Tryd.prog w] (l : La) (pb lb : Option Addr) (pc lc : Nat) (h : LaAt w l pb lb pc lc) (hL : LaB l) (h0 : 0 < l.loop.length) :
  PureT Tryd.prog 32 [.agg (laCells l pb pc lb lc).toArray] w fun v N => ∃ c pb2 lb2 pc2 lc2, v = .agg (laCells c pb2 pc2 lb2 lc2).toArray ∧ N = [rowI pb2 pc2 5 1 (byts c.pre), rowI lb2 lc2 5 1 (byts c.loop)] ∧ SameW l c := by
 refine CallT.enter func32 rfl ntmps32 rfl ?_
 have hpl := hL.pre; have hll := hL.loop; have hln : l.n = l.pre.length + l.loop.length := rfl
 refine T.s (T.rg (TO.l rfl (l_box (v := (.agg (laCells l pb pc lb lc).toArray)) (cs := (laCells l pb pc lb lc)) rfl rfl (fun bx1 => ?_))))
 refine TO.l rfl (l_alloc inf28 rfl (fun bx2 => ?_))
 refine TO.nl (T.s (T.rg (TO.q (q_la 1 underlying28 rfl inf28 rfl rfl rfl) ?_)))
 have hk6 := fun (w1 : World) (hI : Inv w [oI bx2 28 [nS, nS], oI bx1 28 (laCells l pb pc lb lc)] w1) => (haveI := Inv.tab (P := Tryd.prog) hI; refFullF w1 l pb lb pc lc h0)
 refine TO.l rfl (l_call ent68 (CallT.op hk6) rfl ?_)
 clear hk6
 rintro vr O' ⟨N, rfl, rfl, rfl⟩
 refine TO.l rfl (l_sb (v := (.agg (laCells l pb pc lb lc).toArray)) (vs := (laCells l pb pc lb lc)) 1 inf28 rfl rfl rfl rfl rfl rfl (by simp [putL]) ?_)
 refine TO.nl (T.s (T.s (T.rg (TO.qa rfl (TO.nl (T.block ?_))))))
 refine T.loop (fun (p : Nat) ρ O => O = [oI bx2 28 [nS, nS], oI bx1 28 (laCells l pb pc lb lc)] ∧ 1 ≤ p ∧ p ≤ l.loop.length + 1 ∧ (∀ x, 1 ≤ x → x < p → ¬ ∀ i, l.pre.length ≤ i → l.at i = l.at (i + x)) ∧ Heads [(0, (.agg (laCells l pb pc lb lc).toArray)), (1, (.pointer (aD bx1))), (2, (.pointer (aD bx2))), (3, vI (p : Int))] ρ) (fun p => l.loop.length + 1 - p) 1 ?_ ?_
 ·exact ⟨rfl, Nat.le_refl _, by omega, (fun x h1 h2 => by omega), ⟨rfl, rfl, rfl, rfl, trivial⟩⟩
 rintro p ρ O ⟨rfl, hp1, hp2, hpx, hH⟩
 obtain ⟨ρ0, rfl⟩ := hH.elim
 clear hH
 refine T.s (T.s (T.rg (TO.qm rfl (TO.q (q_fa underlying28 rfl inf26 rfl rfl) (TO.q (q_lb 1 underlying26 rfl rfl rfl rfl) (TO.q (q_len underlying26 rfl) (TO.q (q_leq rfl rfl) (TO.nl (T.condP rfl (fun hc => ?_) (fun hc => ?_))))))))))
 ·have hlt11 : p ≤ l.loop.length := by omega
  refine T.skip (T.s (T.block (T.s (T.s (T.rg (TO.q (q_la 1 underlying28 rfl inf28 rfl rfl rfl) (TO.q (q_fa underlying28 rfl inf26 rfl rfl) (TO.q (q_lb 1 underlying26 rfl rfl rfl rfl) (TO.q (q_len underlying26 rfl) (TO.qm rfl ?_))))))))))
  have hk19 := fun (w1 : World) (hI : Inv w [oI bx2 28 [nS, nS], oI bx1 28 (laCells l pb pc lb lc)] w1) => (haveI := Inv.tab (P := Tryd.prog) hI; repeatsF w1 l pb lb pc lc (hI.la h) hL h0 l.pre.length p (by omega) (by omega))
  refine TO.l rfl (l_call ent69 (CallT.op hk19) rfl ?_)
  clear hk19
  rintro vr O' ⟨N, rfl, r1, rfl, rfl, hr1⟩
  refine TO.q (q_not rfl) (TO.nl (T.cond rfl (fun hc => ?_) (fun hc => ?_)))
  ·have hr1n : ¬ r1 = true := by simp_all
   refine T.exit ?_
   refine T.rg (TO.qm rfl (TO.q (q_addN (a := p) (b := 1) rfl rfl (by omega)) (TO.qa rfl (TO.nl ?_))))
   refine ⟨p + 1, by omega, rfl, by omega, by omega, fun x h1 h2 => ?_, ⟨rfl, rfl, rfl, rfl, trivial⟩⟩
   by_cases e : x = p
   ·subst e; exact fun h9 => hr1n (hr1.2 h9)
   ·exact hpx x h1 (by omega)
  refine T.skip (T.s (T.rg (TO.qa rfl (TO.nl (T.block ?_)))))
  have hr1t : ∀ i, l.pre.length ≤ i → l.at i = l.at (i + p) := hr1.1 (by simp_all)
  refine T.loop (fun (a : Nat) ρ O => O = [oI bx2 28 [nS, nS], oI bx1 28 (laCells l pb pc lb lc)] ∧ a ≤ l.pre.length + 1 ∧ (∀ x, x < a → ¬ ∀ i, x ≤ i → l.at i = l.at (i + p)) ∧ Heads [(0, (.agg (laCells l pb pc lb lc).toArray)), (1, (.pointer (aD bx1))), (2, (.pointer (aD bx2))), (3, vI (p : Int)), (4, vI (a : Int))] ρ) (fun a => l.pre.length + 1 - a) 0 ?_ ?_
  ·exact ⟨rfl, Nat.zero_le _, (fun x h2 => by omega), (.of rfl)⟩
  rintro a ρ O ⟨rfl, ha2, hax, hH⟩
  obtain ⟨ρ0, rfl⟩ := hH.elim
  clear hH
  refine T.s (T.s (T.rg (TO.qm rfl (TO.q (q_fa underlying28 rfl inf26 rfl rfl) (TO.q (q_lb 1 underlying26 rfl rfl rfl rfl) (TO.q (q_len underlying26 rfl) (TO.q (q_leq rfl rfl) (TO.nl (T.condP rfl (fun hc => ?_) (fun hc => ?_))))))))))
  ·have hlt25 : a ≤ l.pre.length := by omega
   refine T.skip (T.s (T.block (T.s (T.rg (TO.q (q_la 1 underlying28 rfl inf28 rfl rfl rfl) (TO.qm rfl (TO.qm rfl ?_)))))))
   have hk31 := fun (w1 : World) (hI : Inv w [oI bx2 28 [nS, nS], oI bx1 28 (laCells l pb pc lb lc)] w1) => (haveI := Inv.tab (P := Tryd.prog) hI; repeatsF w1 l pb lb pc lc (hI.la h) hL h0 a p (by omega) (by omega))
   refine TO.l rfl (l_call ent69 (CallT.op hk31) rfl ?_)
   clear hk31
   rintro vr O' ⟨N, rfl, r2, rfl, rfl, hr2⟩
   refine TO.nl (T.cond rfl (fun hc => ?_) (fun hc => ?_))
   ·refine T.s ?_
    refine T.rg (TO.q (q_la 1 underlying28 rfl inf28 rfl rfl rfl) (TO.qm rfl (TO.qm rfl ?_)))
    have hk35 := fun (w1 : World) (hI : Inv w [oI bx2 28 [nS, nS], oI bx1 28 (laCells l pb pc lb lc)] w1) => (haveI := Inv.tab (P := Tryd.prog) hI; cutF w1 l pb lb pc lc (hI.la h) hL h0 a p (by omega) (by omega))
    refine TO.l rfl (l_call ent70 (CallT.op hk35) rfl ?_)
    clear hk35
    rintro vr O' ⟨N, rfl, pb2, lb2, pc2, lc2, rfl, rfl⟩
    refine TO.l rfl (l_sb (v := (.agg #[(.slice pb2 ((cutL l a p).pre.length) pc2), (.slice lb2 ((cutL l a p).loop.length) lc2)])) (vs := [(.slice pb2 ((cutL l a p).pre.length) pc2), (.slice lb2 ((cutL l a p).loop.length) lc2)]) 2 inf28 rfl rfl rfl rfl rfl rfl (by simp [putL]) ?_)
    refine TO.nl (T.ret (Res.drop ?_))
    refine Res.cell1 (i := 2) Tryd.results32 underlying28 rfl inf28 rfl rfl rfl ?_
    exact ⟨[rowI pb2 pc2 5 1 (byts (cutL l a p).pre), rowI lb2 lc2 5 1 (byts (cutL l a p).loop)], (Sub.pick [0, 0] rfl), cutL l a p, pb2, lb2, pc2, lc2, rfl, rfl, SameW.cut h0 ⟨hL.p8, hL.l8⟩ (by omega) (by omega) (by omega) (hr2.1 (by simp_all))⟩
   have hr2n : ¬ r2 = true := by simp_all
   refine T.skip (T.rg (TO.qm rfl (TO.q (q_addN (a := a) (b := 1) rfl rfl (by omega)) (TO.qa rfl (TO.nl ?_)))))
   refine ⟨a + 1, by omega, rfl, by omega, fun x h2 => ?_, (.of rfl)⟩
   by_cases e : x = a
   ·subst e; exact fun h9 => hr2n (hr2.2 h9)
   ·exact hax x (by omega)
  have hge25 : ¬ a ≤ l.pre.length := by omega
  refine T.exit ?_
  refine T.rg (TO.qm rfl (TO.q (q_addN (a := p) (b := 1) rfl rfl (by omega)) (TO.qa rfl (TO.nl ?_))))
  exfalso
  exact hax l.pre.length (by omega) hr1t
 have hge11 : ¬ p ≤ l.loop.length := by omega
 refine T.exit ?_
 refine T.s (T.rg (TO.q (q_la 1 underlying28 rfl inf28 rfl rfl rfl) (TO.l rfl (l_sb (v := (.agg (laCells l pb pc lb lc).toArray)) (vs := (laCells l pb pc lb lc)) 0 inf28 rfl rfl rfl rfl rfl rfl (by simp [putL]) ?_))))
 refine TO.nl (T.ret (Res.drop ?_))
 refine Res.cell1 (i := 0) Tryd.results32 underlying28 rfl inf28 rfl rfl rfl ?_
 exfalso
 exact hpx l.loop.length (by omega) (by omega) (fun i hi => (La.at_back h0 hi).symm)
end Go.Proofs.YtnikhiohindggaaDoor

