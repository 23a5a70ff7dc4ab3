/- Contracts of functions of the program (Yr, Check, Yt, Yp, Yu, Yv, Shelf, Str, Zq, Zp, Za): what each call answers and that it leaves memory as it was. Conditions: those each theorem names. -/
import Derived.Test.YtnikhiohindggaaDoorCoreL
import Derived.Test.YtnikhiohindggaaDoorYm
import Derived.Test.YtnikhiohindggaaDoorYs
import Derived.Shelf.Strconv.Itoa3
import Derived.Test.YtnikhiohindggaaDoorProg
set_option linter.unusedSectionVars false
set_option linter.unusedSimpArgs false
set_option linter.unusedVariables false
set_option linter.unnecessarySimpa false
set_option maxHeartbeats 8000000
set_option maxRecDepth 20000
namespace Go.Proofs.YtnikhiohindggaaDoor
open Go.Lx Go.RowKit _root_.Go.Proofs.Tryd
theorem rowOk_any (n : Nat) (xs : List Int) : (xs.any fun x => decide (x < 0 ∨ (n : Int) ≤ x)) = !rowOk n xs := by
 induction xs with
 | nil => rfl
 | cons x xs ih =>
  rw [List.any_cons, ih, show rowOk n (x :: xs) = ((decide (0 ≤ x) && decide (x < (n : Int))) && rowOk n xs) from rfl, Bool.not_and]
  congr 1
  rw [show (!(decide (0 ≤ x) && decide (x < (n : Int)))) = decide (¬ (0 ≤ x ∧ x < (n : Int))) by by_cases a : 0 ≤ x <;> by_cases b : x < (n : Int) <;> simp [a, b] <;> omega]
  exact decide_eq_decide.2 (by omega)
theorem badTo (base : World) [Tab Tryd.prog base] (n bx : Nat) (x : Int) :
  CallT Tryd.prog base 47 [vI x, .pointer (aD bx)] [oI bx 3 [(vI ((n : Nat) : Int))]] (fun z O' => z = .bool (decide (x < 0 ∨ (n : Int) ≤ x)) ∧ O' = [oI bx 3 [(vI ((n : Nat) : Int))]]) := by
 refine CallT.enter func47 rfl ntmps47 rfl ?_
 refine T.s (T.rg (TO.qa rfl (TO.nl (T.s (T.rg (TO.qm rfl ?_))))))
 by_cases h5 : x < 0
 ·refine TO.q (QT.toB (q_lss rfl rfl) (decide_eq_true h5)) ?_
  refine TO.qm rfl (TO.pd rfl rfl (TO.pd rfl rfl (TO.pd rfl rfl (TO.q (q_pick1 rfl rfl) (TO.qa rfl (TO.nl (T.ret ?_)))))))
  refine Res.one (.bool true) Tryd.results47 rfl ?_
  exact ⟨congrArg Value.bool (decide_eq_true (by omega)).symm, rfl⟩
 refine TO.q (QT.toB (q_lss rfl rfl) (decide_eq_false h5)) (TO.qm rfl (TO.gq rfl rfl (q_move rfl) (TO.gq rfl rfl (q_lb 0 underlying3 rfl rfl rfl rfl) (TO.gq rfl rfl (q_geq rfl rfl) (TO.q (q_pick0 rfl rfl) (TO.qa rfl (TO.nl (T.ret ?_))))))))
 refine Res.one (.bool (decide (x ≥ ((n : Nat) : Int)))) Tryd.results47 rfl ?_
 exact ⟨congrArg Value.bool (decide_eq_decide.2 (by omega)), rfl⟩
theorem parCheck (w : World) [Tab Tryd.prog w] (p : Par) (k : DK) (h : AtP w p k) (hB : ParC p) :
  PureT Tryd.prog 20 [pV p k] w fun v N => v = vI (checkP p : Int) ∧ N = [] := by
 refine CallT.enter func20 rfl ntmps20 rfl ?_
 have hvl := h.rows.1
 have hBn := hB.n; have hBf := hB.f
 refine T.s (T.rg (TO.l rfl (l_box (v := (pV p k)) (cs := (pC p k)) rfl rfl (fun bx1 => ?_))))
 refine TO.qa rfl (TO.nl (T.s (T.rg (TO.q (q_fa underlying25 rfl inf22 rfl rfl) (TO.q (q_lb 0 underlying22 rfl rfl rfl rfl) (TO.q (q_len underlying22 rfl) (TO.l rfl (l_alloc inf3 rfl (fun bx2 => ?_)))))))))
 refine TO.l rfl (l_sb (v := vI (p.next.length : Int)) (vs := [(vI (p.next.length : Int))]) 0 inf3 rfl rfl rfl rfl rfl rfl (by simp [putL]) ?_)
 refine TO.nl (T.s (T.block (T.s (T.rg (TO.q (q_fa underlying25 rfl inf3 rfl rfl) (TO.q (q_lb 1 underlying3 rfl rfl rfl rfl) ?_))))))
 by_cases h12 : p.vars < 0
 ·refine TO.q (QT.toB (q_lss rfl rfl) (decide_eq_true h12)) ?_
  refine TO.qm rfl (TO.pd rfl rfl (TO.pd rfl rfl (TO.pd rfl rfl (TO.q (q_pick1 rfl rfl) (TO.qa rfl (TO.nl ?_))))))
  refine T.cond1 rfl ?_
  refine T.s (T.rg (TO.qa rfl (TO.nl (T.ret (Res.drop ?_)))))
  refine Res.one (vI 7) Tryd.results20 rfl ?_
  refine ⟨[], Sub.z, congrArg (fun z : Nat => Value.int .i64 (z : Int)) (Eq.symm (a := checkP p) (b := 7) ?_), rfl⟩
  unfold checkP
  rw [if_pos (by omega)]
 refine TO.q (QT.toB (q_lss rfl rfl) (decide_eq_false h12)) (TO.qm rfl (TO.gq rfl rfl (q_fa underlying25 rfl inf3 rfl rfl) (TO.gq rfl rfl (q_lb 1 underlying3 rfl rfl rfl rfl) ?_)))
 by_cases h16 : 6 < p.vars
 ·refine TO.gq rfl rfl (QT.toB (q_gtr rfl rfl) (decide_eq_true h16)) ?_
  refine TO.q (q_pick0 rfl rfl) (TO.qa rfl (TO.nl ?_))
  refine T.cond1 rfl ?_
  refine T.s (T.rg (TO.qa rfl (TO.nl (T.ret (Res.drop ?_)))))
  refine Res.one (vI 7) Tryd.results20 rfl ?_
  refine ⟨[], Sub.z, congrArg (fun z : Nat => Value.int .i64 (z : Int)) (Eq.symm (a := checkP p) (b := 7) ?_), rfl⟩
  unfold checkP
  rw [if_pos (by omega)]
 refine TO.gq rfl rfl (QT.toB (q_gtr rfl rfl) (decide_eq_false h16)) (TO.q (q_pick0 rfl rfl) (TO.qa rfl (TO.nl (T.cond0 rfl (T.s (T.rg (TO.q (q_lb 0 underlying3 rfl rfl rfl rfl) (TO.q (q_eql rfl rfl) (TO.qa rfl (TO.nl (T.condP rfl (fun hc => ?_) (fun hc => ?_))))))))))))
 ·have hlt18 : p.next.length = 0 := by omega
  refine T.s (T.rg (TO.qa rfl (TO.nl (T.ret (Res.drop ?_)))))
  refine Res.one (vI 3) Tryd.results20 rfl ?_
  refine ⟨[], Sub.z, congrArg (fun z : Nat => Value.int .i64 (z : Int)) (Eq.symm (a := checkP p) (b := 3) ?_), rfl⟩
  unfold checkP
  rw [if_neg (by simp; omega), if_pos (by omega)]
 have hge18 : ¬ p.next.length = 0 := by omega
 refine T.s (T.rg (TO.q (q_lb 0 underlying3 rfl rfl rfl rfl) (TO.q (q_gtr rfl rfl) (TO.qa rfl (TO.nl (T.condP rfl (fun hc => ?_) (fun hc => ?_)))))))
 ·have hlt21 : p.next.length > 4096 := by omega
  refine T.s (T.rg (TO.qa rfl (TO.nl (T.ret (Res.drop ?_)))))
  refine Res.one (vI 10) Tryd.results20 rfl ?_
  refine ⟨[], Sub.z, congrArg (fun z : Nat => Value.int .i64 (z : Int)) (Eq.symm (a := checkP p) (b := 10) ?_), rfl⟩
  unfold checkP
  rw [if_neg (by simp; omega), if_neg (by omega), if_pos (by omega)]
 have hge21 : ¬ p.next.length > 4096 := by omega
 refine T.s (T.rg (TO.q (q_fa underlying25 rfl inf23 rfl rfl) (TO.q (q_lb 1 underlying23 rfl rfl rfl rfl) (TO.q (q_len underlying23 rfl) (TO.q (q_lb 0 underlying3 rfl rfl rfl rfl) (TO.q (q_neq rfl rfl) (TO.qa rfl (TO.nl (T.condP rfl (fun hc => ?_) (fun hc => ?_))))))))))
 ·have hlt24 : p.prio.length ≠ p.next.length := by omega
  refine T.s (T.rg (TO.qa rfl (TO.nl (T.ret (Res.drop ?_)))))
  refine Res.one (vI 2) Tryd.results20 rfl ?_
  refine ⟨[], Sub.z, congrArg (fun z : Nat => Value.int .i64 (z : Int)) (Eq.symm (a := checkP p) (b := 2) ?_), rfl⟩
  unfold checkP
  rw [if_neg (by simp; omega), if_neg (by omega), if_neg (by omega), if_pos (by omega)]
 have hge24 : ¬ p.prio.length ≠ p.next.length := by omega
 refine T.s (T.rg (TO.q (q_fa underlying25 rfl inf3 rfl rfl) (TO.q (q_lb 1 underlying3 rfl rfl rfl rfl) ?_)))
 by_cases h33 : p.start < 0
 ·refine TO.q (QT.toB (q_lss rfl rfl) (decide_eq_true h33)) ?_
  refine TO.qm rfl (TO.pd rfl rfl (TO.pd rfl rfl (TO.pd rfl rfl (TO.pd rfl rfl (TO.q (q_pick1 rfl rfl) (TO.qa rfl (TO.nl ?_)))))))
  refine T.cond1 rfl ?_
  refine T.s (T.rg (TO.qa rfl (TO.nl (T.ret (Res.drop ?_)))))
  refine Res.one (vI 8) Tryd.results20 rfl ?_
  refine ⟨[], Sub.z, congrArg (fun z : Nat => Value.int .i64 (z : Int)) (Eq.symm (a := checkP p) (b := 8) ?_), rfl⟩
  unfold checkP
  rw [if_neg (by simp; omega), if_neg (by omega), if_neg (by omega), if_neg (by omega), if_pos (by omega)]
 refine TO.q (QT.toB (q_lss rfl rfl) (decide_eq_false h33)) (TO.qm rfl (TO.gq rfl rfl (q_fa underlying25 rfl inf3 rfl rfl) (TO.gq rfl rfl (q_lb 1 underlying3 rfl rfl rfl rfl) (TO.gq rfl rfl (q_lb 0 underlying3 rfl rfl rfl rfl) ?_))))
 by_cases h38 : (p.next.length : Int) ≤ p.start
 ·refine TO.gq rfl rfl (QT.toB (q_geq rfl rfl) (decide_eq_true h38)) ?_
  refine TO.q (q_pick0 rfl rfl) (TO.qa rfl (TO.nl ?_))
  refine T.cond1 rfl ?_
  refine T.s (T.rg (TO.qa rfl (TO.nl (T.ret (Res.drop ?_)))))
  refine Res.one (vI 8) Tryd.results20 rfl ?_
  refine ⟨[], Sub.z, congrArg (fun z : Nat => Value.int .i64 (z : Int)) (Eq.symm (a := checkP p) (b := 8) ?_), rfl⟩
  unfold checkP
  rw [if_neg (by simp; omega), if_neg (by omega), if_neg (by omega), if_neg (by omega), if_pos (by omega)]
 refine TO.gq rfl rfl (QT.toB (q_geq rfl rfl) (decide_eq_false h38)) (TO.q (q_pick0 rfl rfl) (TO.qa rfl (TO.nl (T.cond0 rfl (T.skip (T.s (T.s (T.rg (TO.q (q_fa underlying25 rfl inf22 rfl rfl) (TO.q (q_lb 1 underlying22 rfl rfl rfl rfl) (TO.q (q_len underlying22 rfl) (TO.qm rfl (TO.nl (T.block ?_))))))))))))))
 refine T.loopS (fun (s : Nat) ρ O => O = [oI bx2 3 [(vI (p.next.length : Int))], oI bx1 25 (pC p k)] ∧ s ≤ p.next.length ∧ rowsPE (2 ^ p.vars.toNat) p.next.length (p.next.drop s) (p.prio.drop s) = checkP p ∧ Heads [(0, (pV p k)), (1, (.pointer (aD bx1))), (3, (.pointer (aD bx2))), (9, .bool false), (18, .bool (decide ((p.next.length : Int) = 0))), (21, .bool (decide ((p.next.length : Int) > 4096))), (24, .bool (decide ((p.prio.length : Int) ≠ (p.next.length : Int)))), (30, .bool false), (41, (.slice k.nb p.next.length k.nc)), (42, vI (p.next.length : Int)), (43, vI ((s : Nat) : Int))] ρ) (fun s => p.next.length - s) 0 ?_ ?_
 ·refine ⟨rfl, Nat.zero_le _, ?_, (.of rfl)⟩
  unfold checkP
  rw [if_neg (by simp; omega), if_neg (by omega), if_neg (by omega), if_neg (by omega), if_neg (by omega)]; rfl
 rintro s ρ O ⟨rfl, hs, hr, hH⟩
 obtain ⟨ρ0, rfl⟩ := hH.elim
 clear hH
 refine T.s (T.rg (TO.q (q_lss rfl rfl) (TO.nl (T.s (T.condP rfl (fun hc => ?_) (fun hc => ?_))))))
 ·have hlt44 : s < p.next.length := by omega
  have hlts : s < p.next.length := by omega
  obtain ⟨v1, c1, g1, s1⟩ := h.rows.get hlts
  have hpl9 : s < p.prio.length := by omega
  have hrl := hB.r _ (List.getElem_mem hlts)
  refine T.skip (T.s (T.block (T.s (T.rg (TO.qm rfl (TO.q (q_ix (i := s) underlying22 inf23 rfl rfl (Sl.o h.outer) hlts (hvl ▸ hlts)) (TO.q (q_ld underlying23 rfl rfl (Sl.o h.outer) g1) (TO.qa rfl (TO.qa rfl (TO.nl (T.block (T.s (T.rg (TO.qm rfl (TO.q (q_len underlying23 rfl) (TO.q (q_fa underlying25 rfl inf3 rfl rfl) (TO.q (q_lb 1 underlying3 rfl rfl rfl rfl) (TO.q (q_shl1 (v := p.vars.toNat) rfl (by show Value.int _ p.vars = _; rw [Int.toNat_of_nonneg (by omega)]) (by omega)) (TO.q (q_neq rfl rfl) (TO.qa rfl (TO.nl (T.condP rfl (fun hc => ?_) (fun hc => ?_)))))))))))))))))))))))
  ·have hlt48 : p.next[s].length ≠ 2 ^ p.vars.toNat := by omega
   refine T.s (T.rg (TO.qa rfl (TO.nl (T.ret (Res.drop ?_)))))
   refine Res.one (vI 2) Tryd.results20 rfl ?_
   refine ⟨[], Sub.z, congrArg (fun z : Nat => Value.int .i64 (z : Int)) (Eq.symm (a := checkP p) (b := 2) ?_), rfl⟩
   rw [← hr, rowsPE_at hlts (by omega), if_pos (by omega)]
  have hge48 : ¬ p.next[s].length ≠ 2 ^ p.vars.toNat := by omega
  refine T.s (T.rg (TO.qm rfl (TO.q (q_makeFunc) ?_)))
  have hk58 := (by
   have h9 := containsFuncI w v1 c1 p.next[s] [oI bx2 3 [(vI (p.next.length : Int))], oI bx1 25 (pC p k)] (Sl.o s1) (by have := hB.r _ (List.getElem_mem hlts); omega) (.func (.func 47) #[] #[.pointer (aD bx2)]) (fun x => decide (x < 0 ∨ ((p.next.length : Nat) : Int) ≤ x)) (fun x hx => (CallV.under (A := [oI bx2 3 [(vI (p.next.length : Int))]]) (B := [oI bx1 25 (pC p k)]) (CallV.of_fn (first := []) (args := [vI x]) (caps := [.pointer (aD bx2)]) ent47 (badTo w p.next.length bx2 x)) (by exact Sub.rf)).mono (fun z O' ⟨A', e1, e2, e3⟩ => ⟨e2, by rw [e1, e3]; rfl⟩))
   rw [rowOk_any] at h9
   exact h9)
  refine TO.l rfl (l_call ent46 hk58 rfl ?_)
  clear hk58
  rintro vr O' ⟨rfl, rfl⟩
  refine TO.qa rfl (TO.nl (T.cond rfl (fun hc => ?_) (fun hc => ?_)))
  ·have hrn : ¬ rowOk p.next.length p.next[s] = true := by simpa using hc
   refine T.s (T.rg (TO.qa rfl (TO.nl (T.ret (Res.drop ?_)))))
   refine Res.one (vI 8) Tryd.results20 rfl ?_
   refine ⟨[], Sub.z, congrArg (fun z : Nat => Value.int .i64 (z : Int)) (Eq.symm (a := checkP p) (b := 8) ?_), rfl⟩
   rw [← hr, rowsPE_at hlts (by omega), if_neg (by omega), if_neg hrn]
  have hrk : rowOk p.next.length p.next[s] = true := by simpa using hc
  refine T.s (T.rg (TO.q (q_fa underlying25 rfl inf23 rfl rfl) (TO.q (q_lb 1 underlying23 rfl rfl rfl rfl) (TO.qm rfl (TO.q (q_ix (i := s) underlying23 inf3 rfl rfl (Sl.o h.prio) hpl9 (by rw [List.length_map]; exact hpl9)) (TO.q (q_ld underlying3 rfl rfl (Sl.o h.prio) (ints_get hpl9)) ?_))))))
  by_cases h65 : p.prio[s] < 0
  ·refine TO.q (QT.toB (q_lss rfl rfl) (decide_eq_true h65)) ?_
   refine TO.qm rfl (TO.pd rfl rfl (TO.pd rfl rfl (TO.pd rfl rfl (TO.pd rfl rfl (TO.pd rfl rfl (TO.pd rfl rfl (TO.q (q_pick1 rfl rfl) (TO.qa rfl ?_))))))))
   refine TO.nl ?_
   refine T.cond1 rfl ?_
   refine T.s (T.rg (TO.qa rfl (TO.nl (T.ret (Res.drop ?_)))))
   refine Res.one (vI 1) Tryd.results20 rfl ?_
   refine ⟨[], Sub.z, congrArg (fun z : Nat => Value.int .i64 (z : Int)) (Eq.symm (a := checkP p) (b := 1) ?_), rfl⟩
   rw [← hr, rowsPE_at hlts (by omega), if_neg (by omega), if_pos hrk, if_neg (fun e => by have := prioOk_iff.1 e; omega)]
  refine TO.q (QT.toB (q_lss rfl rfl) (decide_eq_false h65)) (TO.qm rfl (TO.gq rfl rfl (q_fa underlying25 rfl inf23 rfl rfl) (TO.gq rfl rfl (q_lb 1 underlying23 rfl rfl rfl rfl) (TO.gq rfl rfl (q_move rfl) (TO.gq rfl rfl (q_ix (i := s) underlying23 inf3 rfl rfl (Sl.o h.prio) hpl9 (by rw [List.length_map]; exact hpl9)) (TO.gq rfl rfl (q_ld underlying3 rfl rfl (Sl.o h.prio) (ints_get hpl9)) ?_))))))
  by_cases h72 : 16 < p.prio[s]
  ·refine TO.gq rfl rfl (QT.toB (q_gtr rfl rfl) (decide_eq_true h72)) ?_
   refine TO.q (q_pick0 rfl rfl) (TO.qa rfl (TO.nl ?_))
   refine T.cond1 rfl ?_
   refine T.s (T.rg (TO.qa rfl (TO.nl (T.ret (Res.drop ?_)))))
   refine Res.one (vI 1) Tryd.results20 rfl ?_
   refine ⟨[], Sub.z, congrArg (fun z : Nat => Value.int .i64 (z : Int)) (Eq.symm (a := checkP p) (b := 1) ?_), rfl⟩
   rw [← hr, rowsPE_at hlts (by omega), if_neg (by omega), if_pos hrk, if_neg (fun e => by have := prioOk_iff.1 e; omega)]
  refine TO.gq rfl rfl (QT.toB (q_gtr rfl rfl) (decide_eq_false h72)) (TO.q (q_pick0 rfl rfl) (TO.qa rfl (TO.nl (T.cond0 rfl (T.skip (T.rg (TO.q (q_addN (a := s) (b := 1) rfl rfl (by omega)) (TO.qm rfl (TO.nl ?_)))))))))
  exact ⟨s + 1, by omega, [oI bx2 3 [(vI (p.next.length : Int))], oI bx1 25 (pC p k)], (by exact Sub.rf), rfl, by omega, by rw [← hr, rowsPE_at hlts (by omega), if_neg (by omega), if_pos hrk, if_pos (prioOk_iff.2 (by omega))], (.of rfl)⟩
 have hge44 : ¬ s < p.next.length := by omega
 refine T.exit ?_
 refine T.s (T.rg (TO.qa rfl (TO.nl (T.ret (Res.drop ?_)))))
 refine Res.one (vI 0) Tryd.results20 rfl ?_
 refine ⟨[], Sub.z, congrArg (fun z : Nat => Value.int .i64 (z : Int)) (Eq.symm (a := checkP p) (b := 0) ?_), rfl⟩
 rw [← hr, rowsPE_end (by omega)]
theorem refParCheck (w : World) [Tab Tryd.prog w] (p : Par) (k : DK) (h : AtP w p k) (hB : ParC p) :
  PureT Tryd.prog 21 [pV p k] w fun v N => v = vI (checkP p : Int) ∧ N = [] := by
 refine CallT.enter func21 rfl ntmps21 rfl ?_
 have hvl := h.rows.1
 have hBn := hB.n; have hBf := hB.f
 refine T.s (T.rg (TO.l rfl (l_box (v := (pV p k)) (cs := (pC p k)) rfl rfl (fun bx1 => ?_))))
 refine TO.qa rfl (TO.nl (T.s (T.rg (TO.q (q_fa underlying25 rfl inf22 rfl rfl) (TO.q (q_lb 0 underlying22 rfl rfl rfl rfl) (TO.q (q_len underlying22 rfl) (TO.qa rfl (TO.nl (T.s (T.s (T.rg (TO.q (q_fa underlying25 rfl inf3 rfl rfl) (TO.q (q_lb 0 underlying3 rfl rfl rfl rfl) ?_)))))))))))))
 by_cases h11 : p.vars < 0
 ·refine TO.q (QT.toB (q_lss rfl rfl) (decide_eq_true h11)) ?_
  refine TO.qm rfl (TO.pd rfl rfl (TO.pd rfl rfl (TO.pd rfl rfl (TO.q (q_pick1 rfl rfl) (TO.nl ?_)))))
  refine T.cond1 rfl ?_
  refine T.s (T.rg (TO.qa rfl (TO.nl (T.ret (Res.drop ?_)))))
  refine Res.one (vI 7) Tryd.results21 rfl ?_
  refine ⟨[], Sub.z, congrArg (fun z : Nat => Value.int .i64 (z : Int)) (Eq.symm (a := checkP p) (b := 7) ?_), rfl⟩
  unfold checkP
  rw [if_pos (by omega)]
 refine TO.q (QT.toB (q_lss rfl rfl) (decide_eq_false h11)) (TO.qm rfl (TO.gq rfl rfl (q_fa underlying25 rfl inf3 rfl rfl) (TO.gq rfl rfl (q_lb 0 underlying3 rfl rfl rfl rfl) ?_)))
 by_cases h15 : 6 < p.vars
 ·refine TO.gq rfl rfl (QT.toB (q_gtr rfl rfl) (decide_eq_true h15)) ?_
  refine TO.q (q_pick0 rfl rfl) (TO.nl ?_)
  refine T.cond1 rfl ?_
  refine T.s (T.rg (TO.qa rfl (TO.nl (T.ret (Res.drop ?_)))))
  refine Res.one (vI 7) Tryd.results21 rfl ?_
  refine ⟨[], Sub.z, congrArg (fun z : Nat => Value.int .i64 (z : Int)) (Eq.symm (a := checkP p) (b := 7) ?_), rfl⟩
  unfold checkP
  rw [if_pos (by omega)]
 refine TO.gq rfl rfl (QT.toB (q_gtr rfl rfl) (decide_eq_false h15)) (TO.q (q_pick0 rfl rfl) (TO.nl (T.cond0 rfl (T.skip (T.s (T.s (T.rg (TO.qm rfl (TO.q (q_eql rfl rfl) (TO.nl (T.condP rfl (fun hc => ?_) (fun hc => ?_))))))))))))
 ·have hlt18 : p.next.length = 0 := by omega
  refine T.s (T.rg (TO.qa rfl (TO.nl (T.ret (Res.drop ?_)))))
  refine Res.one (vI 3) Tryd.results21 rfl ?_
  refine ⟨[], Sub.z, congrArg (fun z : Nat => Value.int .i64 (z : Int)) (Eq.symm (a := checkP p) (b := 3) ?_), rfl⟩
  unfold checkP
  rw [if_neg (by simp; omega), if_pos (by omega)]
 have hge18 : ¬ p.next.length = 0 := by omega
 refine T.skip (T.s (T.s (T.rg (TO.qm rfl (TO.q (q_gtr rfl rfl) (TO.nl (T.condP rfl (fun hc => ?_) (fun hc => ?_))))))))
 ·have hlt20 : p.next.length > 4096 := by omega
  refine T.s (T.rg (TO.qa rfl (TO.nl (T.ret (Res.drop ?_)))))
  refine Res.one (vI 10) Tryd.results21 rfl ?_
  refine ⟨[], Sub.z, congrArg (fun z : Nat => Value.int .i64 (z : Int)) (Eq.symm (a := checkP p) (b := 10) ?_), rfl⟩
  unfold checkP
  rw [if_neg (by simp; omega), if_neg (by omega), if_pos (by omega)]
 have hge20 : ¬ p.next.length > 4096 := by omega
 refine T.skip (T.s (T.s (T.rg (TO.q (q_fa underlying25 rfl inf23 rfl rfl) (TO.q (q_lb 0 underlying23 rfl rfl rfl rfl) (TO.q (q_len underlying23 rfl) (TO.qm rfl (TO.q (q_neq rfl rfl) (TO.nl (T.condP rfl (fun hc => ?_) (fun hc => ?_)))))))))))
 ·have hlt25 : p.prio.length ≠ p.next.length := by omega
  refine T.s (T.rg (TO.qa rfl (TO.nl (T.ret (Res.drop ?_)))))
  refine Res.one (vI 2) Tryd.results21 rfl ?_
  refine ⟨[], Sub.z, congrArg (fun z : Nat => Value.int .i64 (z : Int)) (Eq.symm (a := checkP p) (b := 2) ?_), rfl⟩
  unfold checkP
  rw [if_neg (by simp; omega), if_neg (by omega), if_neg (by omega), if_pos (by omega)]
 have hge25 : ¬ p.prio.length ≠ p.next.length := by omega
 refine T.skip (T.s (T.s (T.rg (TO.q (q_fa underlying25 rfl inf3 rfl rfl) (TO.q (q_lb 0 underlying3 rfl rfl rfl rfl) ?_)))))
 by_cases h28 : p.start < 0
 ·refine TO.q (QT.toB (q_lss rfl rfl) (decide_eq_true h28)) ?_
  refine TO.qm rfl (TO.pd rfl rfl (TO.pd rfl rfl (TO.pd rfl rfl (TO.pd rfl rfl (TO.q (q_pick1 rfl rfl) (TO.nl ?_))))))
  refine T.cond1 rfl ?_
  refine T.s (T.rg (TO.qa rfl (TO.nl (T.ret (Res.drop ?_)))))
  refine Res.one (vI 8) Tryd.results21 rfl ?_
  refine ⟨[], Sub.z, congrArg (fun z : Nat => Value.int .i64 (z : Int)) (Eq.symm (a := checkP p) (b := 8) ?_), rfl⟩
  unfold checkP
  rw [if_neg (by simp; omega), if_neg (by omega), if_neg (by omega), if_neg (by omega), if_pos (by omega)]
 refine TO.q (QT.toB (q_lss rfl rfl) (decide_eq_false h28)) (TO.qm rfl (TO.gq rfl rfl (q_fa underlying25 rfl inf3 rfl rfl) (TO.gq rfl rfl (q_lb 0 underlying3 rfl rfl rfl rfl) (TO.gq rfl rfl (q_move rfl) ?_))))
 by_cases h33 : (p.next.length : Int) ≤ p.start
 ·refine TO.gq rfl rfl (QT.toB (q_geq rfl rfl) (decide_eq_true h33)) ?_
  refine TO.q (q_pick0 rfl rfl) (TO.nl ?_)
  refine T.cond1 rfl ?_
  refine T.s (T.rg (TO.qa rfl (TO.nl (T.ret (Res.drop ?_)))))
  refine Res.one (vI 8) Tryd.results21 rfl ?_
  refine ⟨[], Sub.z, congrArg (fun z : Nat => Value.int .i64 (z : Int)) (Eq.symm (a := checkP p) (b := 8) ?_), rfl⟩
  unfold checkP
  rw [if_neg (by simp; omega), if_neg (by omega), if_neg (by omega), if_neg (by omega), if_pos (by omega)]
 refine TO.gq rfl rfl (QT.toB (q_geq rfl rfl) (decide_eq_false h33)) (TO.q (q_pick0 rfl rfl) (TO.nl (T.cond0 rfl (T.skip (T.s (T.s (T.rg (TO.qa rfl (TO.nl (T.block ?_))))))))))
 refine T.loopS (fun (s : Nat) ρ O => O = [oI bx1 25 (pC p k)] ∧ s ≤ p.next.length ∧ rowsPE (2 ^ p.vars.toNat) p.next.length (p.next.drop s) (p.prio.drop s) = checkP p ∧ Heads [(0, (pV p k)), (1, (.pointer (aD bx1))), (3, vI (p.next.length : Int)), (4, vI ((s : Nat) : Int))] ρ) (fun s => p.next.length - s) 0 ?_ ?_
 ·refine ⟨rfl, Nat.zero_le _, ?_, ⟨rfl, rfl, rfl, rfl, trivial⟩⟩
  unfold checkP
  rw [if_neg (by simp; omega), if_neg (by omega), if_neg (by omega), if_neg (by omega), if_neg (by omega)]; rfl
 rintro s ρ O ⟨rfl, hs, hr, hH⟩
 obtain ⟨ρ0, rfl⟩ := hH.elim
 clear hH
 refine T.s (T.s (T.rg (TO.qm rfl (TO.qm rfl (TO.q (q_lss rfl rfl) (TO.nl (T.condP rfl (fun hc => ?_) (fun hc => ?_))))))))
 ·have hlt37 : s < p.next.length := by omega
  have hlts : s < p.next.length := by omega
  obtain ⟨v1, c1, g1, s1⟩ := h.rows.get hlts
  have hpl9 : s < p.prio.length := by omega
  have hrl := hB.r _ (List.getElem_mem hlts)
  refine T.skip (T.s (T.block (T.s (T.s ?_))))
  refine T.draws _ [(0, 0), (1, 0), (2, 0), (3, 0), (4, 0), (5, 0), (6, 0), (7, 0), (8, 0), (9, 0), (10, 0)] mixed (by kernel_rfl) (Sub.of (List.Sublist.refl _)) (fun _ _ _ h => h) ?_
  refine DO.q rfl (q_fa underlying25 rfl inf22 rfl rfl) (DO.q rfl (q_lb 0 underlying22 rfl rfl rfl rfl) (DO.q rfl (q_move rfl) (DO.q rfl (q_ix (i := s) underlying22 inf23 rfl rfl (Sl.o h.outer) hlts (hvl ▸ hlts)) (DO.q rfl (q_ld underlying23 rfl rfl (Sl.o h.outer) g1) (DO.q rfl (q_len underlying23 rfl) (DO.q rfl (q_fa underlying25 rfl inf3 rfl rfl) (DO.q rfl (q_lb 0 underlying3 rfl rfl rfl rfl) (DO.q rfl (q_conv_id underlying3 underlying70 rfl (show IntKind.u64.wrap p.vars = p.vars by unfold IntKind.wrap; simp [IntKind.bits, IntKind.signed]; omega)) (DO.q rfl (q_shl1 (v := p.vars.toNat) rfl (by show Value.int _ p.vars = _; rw [Int.toNat_of_nonneg (by omega)]) (by omega)) (DO.q rfl (q_neq rfl rfl) ?_))))))))))
  refine DO.done ?_
  refine T.condP rfl (fun hc => ?_) (fun hc => ?_)
  ·have hlt50 : p.next[s].length ≠ 2 ^ p.vars.toNat := by omega
   refine T.s (T.rg (TO.qa rfl (TO.nl (T.ret (Res.drop ?_)))))
   refine Res.one (vI 2) Tryd.results21 rfl ?_
   refine ⟨[], Sub.z, congrArg (fun z : Nat => Value.int .i64 (z : Int)) (Eq.symm (a := checkP p) (b := 2) ?_), rfl⟩
   rw [← hr, rowsPE_at hlts (by omega), if_pos (by omega)]
  have hge50 : ¬ p.next[s].length ≠ 2 ^ p.vars.toNat := by omega
  refine T.skip (T.s (T.s (T.rg (TO.qa rfl (TO.nl (T.block ?_))))))
  refine T.loopS (fun (x : Nat) ρ O => O = [oI bx1 25 (pC p k)] ∧ x ≤ p.next[s].length ∧ rowOk p.next.length (p.next[s].take x) = true ∧ Heads [(0, (pV p k)), (1, (.pointer (aD bx1))), (3, vI (p.next.length : Int)), (4, vI ((s : Nat) : Int)), (5, vI ((x : Nat) : Int))] ρ) (fun x => p.next[s].length - x) 0 ?_ ?_
  ·exact ⟨rfl, Nat.zero_le _, rfl, (.of rfl)⟩
  rintro x ρ O ⟨rfl, hx, hok, hH⟩
  obtain ⟨ρ0, rfl⟩ := hH.elim
  clear hH
  refine T.s (T.s (T.rg (TO.qm rfl (TO.q (q_fa underlying25 rfl inf22 rfl rfl) (TO.q (q_lb 0 underlying22 rfl rfl rfl rfl) (TO.qm rfl (TO.q (q_ix (i := s) underlying22 inf23 rfl rfl (Sl.o h.outer) hlts (hvl ▸ hlts)) (TO.q (q_ld underlying23 rfl rfl (Sl.o h.outer) g1) (TO.q (q_len underlying23 rfl) (TO.q (q_lss rfl rfl) (TO.nl (T.condP rfl (fun hc => ?_) (fun hc => ?_)))))))))))))
  ·have hlt58 : x < p.next[s].length := by omega
   have hltx : x < p.next[s].length := by omega
   refine T.skip (T.s (T.block (T.s (T.rg (TO.q (q_fa underlying25 rfl inf22 rfl rfl) (TO.q (q_lb 0 underlying22 rfl rfl rfl rfl) (TO.qm rfl (TO.q (q_ix (i := s) underlying22 inf23 rfl rfl (Sl.o h.outer) hlts (hvl ▸ hlts)) (TO.q (q_ld underlying23 rfl rfl (Sl.o h.outer) g1) (TO.qm rfl (TO.q (q_ix (i := x) underlying23 inf3 rfl rfl (Sl.o s1) hltx (by rw [List.length_map]; exact hltx)) (TO.q (q_ld underlying3 rfl rfl (Sl.o s1) (ints_get hltx)) ?_))))))))))))
   by_cases h69 : p.next[s][x] < 0
   ·refine TO.q (QT.toB (q_lss rfl rfl) (decide_eq_true h69)) ?_
    refine TO.qm rfl (TO.pd rfl rfl (TO.pd rfl rfl (TO.pd rfl rfl (TO.pd rfl rfl (TO.pd rfl rfl (TO.pd rfl rfl (TO.pd rfl rfl ?_)))))))
    refine TO.pd rfl rfl (TO.pd rfl rfl (TO.pd rfl rfl (TO.q (q_pick1 rfl rfl) (TO.nl ?_))))
    refine T.cond1 rfl ?_
    refine T.s (T.rg (TO.qa rfl (TO.nl (T.ret (Res.drop ?_)))))
    refine Res.one (vI 8) Tryd.results21 rfl ?_
    have hrn : ¬ rowOk p.next.length p.next[s] = true := rowOk_bad hltx (by omega)
    refine ⟨[], Sub.z, congrArg (fun z : Nat => Value.int .i64 (z : Int)) (Eq.symm (a := checkP p) (b := 8) ?_), rfl⟩
    rw [← hr, rowsPE_at hlts (by omega), if_neg (by omega), if_neg hrn]
   refine TO.q (QT.toB (q_lss rfl rfl) (decide_eq_false h69)) (TO.qm rfl (TO.gq rfl rfl (q_fa underlying25 rfl inf22 rfl rfl) (TO.gq rfl rfl (q_lb 0 underlying22 rfl rfl rfl rfl) (TO.gq rfl rfl (q_move rfl) (TO.gq rfl rfl (q_ix (i := s) underlying22 inf23 rfl rfl (Sl.o h.outer) hlts (hvl ▸ hlts)) (TO.gq rfl rfl (q_ld underlying23 rfl rfl (Sl.o h.outer) g1) (TO.gq rfl rfl (q_move rfl) (TO.gq rfl rfl (q_ix (i := x) underlying23 inf3 rfl rfl (Sl.o s1) hltx (by rw [List.length_map]; exact hltx)) ?_))))))))
   refine TO.gq rfl rfl (q_ld underlying3 rfl rfl (Sl.o s1) (ints_get hltx)) (TO.gq rfl rfl (q_move rfl) ?_)
   by_cases h80 : (p.next.length : Int) ≤ p.next[s][x]
   ·refine TO.gq rfl rfl (QT.toB (q_geq rfl rfl) (decide_eq_true h80)) ?_
    refine TO.q (q_pick0 rfl rfl) (TO.nl ?_)
    refine T.cond1 rfl ?_
    refine T.s (T.rg (TO.qa rfl (TO.nl (T.ret (Res.drop ?_)))))
    refine Res.one (vI 8) Tryd.results21 rfl ?_
    have hrn : ¬ rowOk p.next.length p.next[s] = true := rowOk_bad hltx (by omega)
    refine ⟨[], Sub.z, congrArg (fun z : Nat => Value.int .i64 (z : Int)) (Eq.symm (a := checkP p) (b := 8) ?_), rfl⟩
    rw [← hr, rowsPE_at hlts (by omega), if_neg (by omega), if_neg hrn]
   refine TO.gq rfl rfl (QT.toB (q_geq rfl rfl) (decide_eq_false h80)) (TO.q (q_pick0 rfl rfl) (TO.nl (T.cond0 rfl (T.skip (T.rg (TO.qm rfl (TO.q (q_addN (a := x) (b := 1) rfl rfl (by omega)) (TO.qa rfl (TO.nl ?_)))))))))
   exact ⟨x + 1, by omega, [oI bx1 25 (pC p k)], (by exact Sub.rf), rfl, by omega, rowOk_step hltx hok (by omega) (by omega), (.of rfl)⟩
  have hge58 : ¬ x < p.next[s].length := by omega
  refine T.exit ?_
  refine T.s ?_
  have hrk : rowOk p.next.length p.next[s] = true := rowOk_full (by omega) hok
  refine T.rg (TO.q (q_fa underlying25 rfl inf23 rfl rfl) (TO.q (q_lb 0 underlying23 rfl rfl rfl rfl) (TO.qm rfl (TO.q (q_ix (i := s) underlying23 inf3 rfl rfl (Sl.o h.prio) hpl9 (by rw [List.length_map]; exact hpl9)) (TO.q (q_ld underlying3 rfl rfl (Sl.o h.prio) (ints_get hpl9)) ?_)))))
  by_cases h87 : p.prio[s] < 0
  ·refine TO.q (QT.toB (q_lss rfl rfl) (decide_eq_true h87)) ?_
   refine TO.qm rfl (TO.pd rfl rfl (TO.pd rfl rfl (TO.pd rfl rfl (TO.pd rfl rfl (TO.pd rfl rfl (TO.pd rfl rfl (TO.q (q_pick1 rfl rfl) ?_)))))))
   refine TO.nl ?_
   refine T.cond1 rfl ?_
   refine T.s (T.rg (TO.qa rfl (TO.nl (T.ret (Res.drop ?_)))))
   refine Res.one (vI 1) Tryd.results21 rfl ?_
   refine ⟨[], Sub.z, congrArg (fun z : Nat => Value.int .i64 (z : Int)) (Eq.symm (a := checkP p) (b := 1) ?_), rfl⟩
   rw [← hr, rowsPE_at hlts (by omega), if_neg (by omega), if_pos hrk, if_neg (fun e => by have := prioOk_iff.1 e; omega)]
  refine TO.q (QT.toB (q_lss rfl rfl) (decide_eq_false h87)) (TO.qm rfl (TO.gq rfl rfl (q_fa underlying25 rfl inf23 rfl rfl) (TO.gq rfl rfl (q_lb 0 underlying23 rfl rfl rfl rfl) (TO.gq rfl rfl (q_move rfl) (TO.gq rfl rfl (q_ix (i := s) underlying23 inf3 rfl rfl (Sl.o h.prio) hpl9 (by rw [List.length_map]; exact hpl9)) (TO.gq rfl rfl (q_ld underlying3 rfl rfl (Sl.o h.prio) (ints_get hpl9)) ?_))))))
  by_cases h94 : 16 < p.prio[s]
  ·refine TO.gq rfl rfl (QT.toB (q_gtr rfl rfl) (decide_eq_true h94)) ?_
   refine TO.q (q_pick0 rfl rfl) (TO.nl ?_)
   refine T.cond1 rfl ?_
   refine T.s (T.rg (TO.qa rfl (TO.nl (T.ret (Res.drop ?_)))))
   refine Res.one (vI 1) Tryd.results21 rfl ?_
   refine ⟨[], Sub.z, congrArg (fun z : Nat => Value.int .i64 (z : Int)) (Eq.symm (a := checkP p) (b := 1) ?_), rfl⟩
   rw [← hr, rowsPE_at hlts (by omega), if_neg (by omega), if_pos hrk, if_neg (fun e => by have := prioOk_iff.1 e; omega)]
  refine TO.gq rfl rfl (QT.toB (q_gtr rfl rfl) (decide_eq_false h94)) (TO.q (q_pick0 rfl rfl) (TO.nl (T.cond0 rfl (T.skip (T.rg (TO.qm rfl (TO.q (q_addN (a := s) (b := 1) rfl rfl (by omega)) (TO.qa rfl (TO.nl ?_)))))))))
  exact ⟨s + 1, by omega, [oI bx1 25 (pC p k)], (by exact Sub.rf), rfl, by omega, by rw [← hr, rowsPE_at hlts (by omega), if_neg (by omega), if_pos hrk, if_pos (prioOk_iff.2 (by omega))], ⟨rfl, rfl, rfl, rfl, trivial⟩⟩
 have hge37 : ¬ s < p.next.length := by omega
 refine T.exit ?_
 refine T.s (T.rg (TO.qa rfl (TO.nl (T.ret (Res.drop ?_)))))
 refine Res.one (vI 0) Tryd.results21 rfl ?_
 refine ⟨[], Sub.z, congrArg (fun z : Nat => Value.int .i64 (z : Int)) (Eq.symm (a := checkP p) (b := 0) ?_), rfl⟩
 rw [← hr, rowsPE_end (by omega)]
end Go.Proofs.YtnikhiohindggaaDoor


namespace Go.Proofs.YtnikhiohindggaaDoor
open Go.Lx Go.RowKit _root_.Go.Proofs.Tryd
theorem hasInt (w : World) (b : Option Addr) (c : Nat) (xs : List Int) (x : Int) (h : Sl w b (ints xs)) (hb : xs.length < 9223372036854775807) : PureT Tryd.prog 92 [.slice b xs.length c, vI x] w fun v N => v = .bool (decide (x ∈ xs)) ∧ N = [] := by
 refine CallT.enter func92 rfl ntmps92 rfl ?_
 refine T.s (T.rg (TO.qa rfl (TO.nl (T.s (T.s (T.rg (TO.qa rfl (TO.nl (T.block ?_)))))))))
 refine T.loop (fun (k : Nat) ρ O => O = [] ∧ k ≤ xs.length ∧ x ∉ xs.take k ∧ Heads [(0, (.slice b xs.length c)), (1, vI x), (5, vI (k : Int))] ρ) (fun k => xs.length - k) 0 ?_ ?_
 ·exact ⟨rfl, Nat.zero_le _, by simp, ⟨rfl, rfl, rfl, trivial⟩⟩
 rintro k ρ O ⟨rfl, hk, hm, hH⟩
 obtain ⟨ρ0, rfl⟩ := hH.elim
 clear hH
 refine T.s (T.s (T.rg (TO.qm rfl (TO.qm rfl (TO.q (q_len underlying23 rfl) (TO.q (q_lss rfl rfl) (TO.nl (T.condP rfl (fun hc => ?_) (fun hc => ?_)))))))))
 ·have hlt9 : k < xs.length := by omega
  refine T.skip (T.s (T.block (T.s (T.rg (TO.qm rfl (TO.qm rfl (TO.q (q_ix (i := k) underlying23 inf3 rfl rfl (Sl.o h)) (TO.q (q_ld underlying3 rfl rfl (Sl.o h) ints_get) (TO.qm rfl (TO.q (q_eql rfl rfl) (TO.nl (T.condP rfl (fun hc => ?_) (fun hc => ?_)))))))))))))
  ·refine T.s ?_
   refine T.rg (TO.qa rfl (TO.nl (T.ret ?_)))
   refine Res.one (.bool true) Tryd.results92 rfl ?_
   exact ⟨congrArg Value.bool (decide_eq_true (by rw [← hc]; exact List.getElem_mem _)).symm, rfl⟩
  refine T.skip (T.rg (TO.qm rfl (TO.q (q_inc rfl rfl (by omega)) (TO.qa rfl (TO.nl ?_)))))
  refine ⟨k + 1, by omega, rfl, by omega, ?_, ⟨rfl, rfl, rfl, trivial⟩⟩
  rw [List.take_succ_eq_append_getElem hlt9]
  simp only [List.mem_append, List.mem_singleton, not_or]
  exact ⟨hm, fun e => hc e.symm⟩
 have hge9 : ¬ k < xs.length := by omega
 refine T.exit ?_
 refine T.s (T.rg (TO.qa rfl (TO.nl (T.ret ?_))))
 refine Res.one (.bool false) Tryd.results92 rfl ?_
 exact ⟨congrArg Value.bool (decide_eq_false (by rwa [List.take_of_length_le (by omega)] at hm)).symm, rfl⟩
theorem slicesMax (w : World) (b : Option Addr) (c : Nat) (xs : List Int) (h : Sl w b (ints xs)) (h0 : 0 < xs.length) (hb : xs.length < 9223372036854775807) : PureT Tryd.prog 41 [.slice b xs.length c] w fun v N => (∃ m, v = vI m ∧ m ∈ xs ∧ ∀ x ∈ xs, x ≤ m) ∧ N = [] := by
 refine CallT.enter func41 rfl ntmps41 rfl ?_
 refine T.s (T.rg (TO.qa rfl (TO.nl (T.s (T.s (T.rg (TO.qm rfl (TO.q (q_len underlying23 rfl) (TO.q (q_lss rfl rfl) (TO.nl (T.condP rfl (fun hc => ?_) (fun hc => ?_))))))))))))
 ·exact absurd hc (by omega)
 have hge7 : ¬ xs.length < 1 := by omega
 refine T.skip (T.s (T.rg (TO.qm rfl (TO.q (q_ix (i := 0) underlying23 inf3 rfl rfl (Sl.o h)) (TO.q (q_ld underlying3 rfl rfl (Sl.o h) ints_get) (TO.qa rfl (TO.nl (T.s (T.s (T.rg (TO.qa rfl (TO.nl (T.block ?_)))))))))))))
 refine T.loop (fun (k : Nat) ρ O => ∃ (m : Int), O = [] ∧ 1 ≤ k ∧ k ≤ xs.length ∧ m ∈ xs.take k ∧ (∀ x ∈ xs.take k, x ≤ m) ∧ Heads [(0, (.slice b xs.length c)), (2, vI 0), (3, vI m), (4, vI (k : Int))] ρ) (fun k => xs.length - k) 1 ?_ ?_
 ·refine ⟨xs[0], rfl, Nat.le_refl _, h0, ?_, ?_, ⟨rfl, rfl, rfl, rfl, trivial⟩⟩
  ·show xs[0] ∈ xs.take (0 + 1)
   rw [List.take_succ_eq_append_getElem h0]; simp
  ·show ∀ x ∈ xs.take (0 + 1), _
   rw [List.take_succ_eq_append_getElem h0]; simp
 rintro k ρ O ⟨m, rfl, hk1, hk, hm, hall, hH⟩
 obtain ⟨ρ0, rfl⟩ := hH.elim
 clear hH
 refine T.s (T.s (T.rg (TO.qm rfl (TO.qm rfl (TO.q (q_len underlying23 rfl) (TO.q (q_lss rfl rfl) (TO.nl (T.condP rfl (fun hc => ?_) (fun hc => ?_)))))))))
 ·have hlt15 : k < xs.length := by omega
  refine T.skip (T.s (T.block (T.rg (TO.qm rfl (TO.qm rfl (TO.qm rfl (TO.q (q_ix (i := k) underlying23 inf3 rfl rfl (Sl.o h)) (TO.q (q_ld underlying3 rfl rfl (Sl.o h) ints_get) (TO.q (q_max rfl rfl) (TO.qa rfl (TO.nl (T.rg (TO.qm rfl (TO.q (q_inc rfl rfl (by omega)) (TO.qa rfl (TO.nl ?_))))))))))))))))
  refine ⟨k + 1, by omega, if xs[k] > m then xs[k] else m, rfl, by omega, by omega, ?_, ?_, ⟨rfl, rfl, rfl, rfl, trivial⟩⟩
  ·rw [List.take_succ_eq_append_getElem hlt15]; split
   ·exact List.mem_append_right _ (List.mem_singleton.2 rfl)
   ·exact List.mem_append_left _ hm
  ·rw [List.take_succ_eq_append_getElem hlt15]
   intro x hx
   rcases List.mem_append.1 hx with hx | hx
   ·have := hall x hx; split <;> omega
   ·rw [List.mem_singleton] at hx; subst hx; split <;> omega
 have hge15 : ¬ k < xs.length := by omega
 refine T.exit ?_
 refine T.s (T.rg (TO.qm rfl (TO.qa rfl (TO.nl (T.ret ?_)))))
 refine Res.one (vI m) Tryd.results41 rfl ?_
 rw [List.take_of_length_le (by omega)] at hm hall
 exact ⟨⟨m, rfl, hm, hall⟩, rfl⟩
end Go.Proofs.YtnikhiohindggaaDoor


namespace Go.Proofs.YtnikhiohindggaaDoor
open Go.Lx Go.RowKit _root_.Go.Proofs.Tryd
theorem parRun (w : World) [Tab Tryd.prog w] (p : Par) (k : DK) (h : AtP w p k) (hB : ParC p) (l : La) (kl : LK) (hl : AtL w l kl) (hL : LaB l) :
  PureT Tryd.prog 15 [pV p k, lV l kl] w fun v N => v = .tuple #[vI ((ruV p l : Nat) : Int), vI (ruE p l : Int)] ∧ N = [] := by
 refine CallT.enter func15 rfl ntmps15 rfl ?_
 have hvl := h.rows.1
 have hBn := hB.n; have hBf := hB.f
 have hpl := hL.pre; have hll := hL.loop
 refine T.s (T.rg (TO.l rfl (l_box (v := (pV p k)) (cs := (pC p k)) rfl rfl (fun z1 => ?_))))
 refine TO.l rfl (l_box (v := (lV l kl)) (cs := (lC l kl)) rfl rfl (fun z2 => ?_))
 refine TO.qa rfl (TO.qa rfl (TO.nl (T.s (T.s (T.rg (TO.q (q_la 1 underlying25 rfl inf25 rfl rfl rfl) ?_))))))
 have hk19 := fun (w1 : World) (hI : Inv w [oI z2 28 (lC l kl), oI z1 25 (pC p k)] w1) => (haveI := Inv.tab (P := Tryd.prog) hI; parCheck w1 p k (hI.atQ h) hB)
 refine TO.l rfl (l_call ent20 (CallT.op hk19) rfl ?_)
 clear hk19
 rintro vr O' ⟨N, rfl, rfl, rfl⟩
 refine TO.qa rfl (TO.nl (T.s (T.rg (TO.qm rfl (TO.q (q_neq rfl rfl) (TO.nl (T.condP rfl (fun hc => ?_) (fun hc => ?_))))))))
 ·have hlt21 : checkP p ≠ 0 := by omega
  refine T.s (T.rg (TO.qm rfl (TO.qa rfl (TO.qa rfl (TO.nl (T.ret (Res.drop ?_)))))))
  refine Res.two (vI 0) (vI (checkP p : Int)) Tryd.results15 rfl rfl ?_
  have he9 : ruE p l = checkP p := if_pos (by omega)
  exact ⟨[], Sub.z, by rw [show ruV p l = 0 from if_neg (by omega), he9]; rfl, rfl⟩
 have hge21 : ¬ checkP p ≠ 0 := by omega
 have hv : ValidP p := checkP_zero.1 (by omega)
 have h6 := hv.letN6
 have h4n := hv.n4
 refine T.skip (T.s (T.s (T.rg (TO.q (q_la 0 underlying28 rfl inf28 rfl rfl rfl) (TO.q (q_fa underlying25 rfl inf3 rfl rfl) (TO.q (q_lb 1 underlying3 rfl rfl rfl rfl) ?_))))))
 have hk26 := fun (w1 : World) (hI : Inv w [oI z2 28 (lC l kl), oI z1 25 (pC p k)] w1) => (haveI := Inv.tab (P := Tryd.prog) hI; lassoCheckF w1 l kl.pb kl.lb kl.pc kl.lc (hI.la hl) hL p.vars)
 refine TO.l rfl (l_call ent35 (CallT.op hk26) rfl ?_)
 clear hk26
 rintro vr O' ⟨N, rfl, rfl, rfl⟩
 refine TO.qa rfl (TO.nl (T.s (T.rg (TO.qm rfl (TO.q (q_neq rfl rfl) (TO.nl (T.condP rfl (fun hc => ?_) (fun hc => ?_))))))))
 ·have hlt28 : checkLV p.vars l ≠ 0 := by omega
  refine T.s (T.rg (TO.qm rfl (TO.qa rfl (TO.qa rfl (TO.nl (T.ret (Res.drop ?_)))))))
  refine Res.two (vI 0) (vI (checkLV p.vars l : Int)) Tryd.results15 rfl rfl ?_
  have he9 : ruE p l = checkLV p.vars l := if_neg (by omega)
  exact ⟨[], Sub.z, by rw [show ruV p l = 0 from if_neg (by omega), he9]; rfl, rfl⟩
 have hge28 : ¬ checkLV p.vars l ≠ 0 := by omega
 have hV : LaV p.d l := laV_of hv (by omega)
 refine T.skip (T.s (T.rg (TO.q (q_fa underlying25 rfl inf3 rfl rfl) (TO.q (q_lb 1 underlying3 rfl rfl rfl rfl) (TO.qa rfl (TO.nl (T.s (T.s (T.rg (TO.q (q_fa underlying28 rfl inf26 rfl rfl) (TO.q (q_lb 0 underlying26 rfl rfl rfl rfl) (TO.q (q_len underlying26 rfl) (TO.qm rfl (TO.nl (T.block ?_)))))))))))))))
 refine T.loopS (fun (i : Nat) ρ O => ∃ (s : Nat), O = [oI z2 28 (lC l kl), oI z1 25 (pC p k)] ∧ i ≤ l.pre.length ∧ Lx.runN p.d p.d.start.toNat (l.pre.take i) = s ∧ Heads [(0, (pV p k)), (1, (lV l kl)), (2, (.pointer (aD z1))), (3, (.pointer (aD z2))), (4, vI 0), (5, vI 0), (6, vI (checkP p : Int)), (7, vI (checkLV p.vars l : Int)), (8, vI ((s : Nat) : Int)), (33, (.slice kl.pb l.pre.length kl.pc)), (34, vI (l.pre.length : Int)), (35, vI ((i : Nat) : Int))] ρ) (fun i => l.pre.length - i) 0 ?_ ?_
 ·exact ⟨p.start.toNat, rfl, Nat.zero_le _, rfl, ⟨rfl, rfl, rfl, rfl, rfl, rfl, rfl, rfl, (congrArg (Value.int .i64) (Int.toNat_of_nonneg hv.val.s0).symm), rfl, rfl, rfl, trivial⟩⟩
 rintro i ρ O ⟨s, rfl, hi, hrs, hH⟩
 obtain ⟨ρ0, rfl⟩ := hH.elim
 clear hH
 refine T.s (T.rg (TO.q (q_lss rfl rfl) (TO.nl (T.s (T.condP rfl (fun hc => ?_) (fun hc => ?_))))))
 ·have hlt36 : i < l.pre.length := by omega
  have hsn : s < p.next.length := by rw [← hrs]; exact runN_lt hv.val hv.st _ (hV.pw.take i)
  have hil : i < l.pre.length := by omega
  have hx8 : l.pre[i] < letN p.d := hV.pw _ (List.getElem_mem hil)
  obtain ⟨hto, hxk1, hx1, hx1i⟩ := hv.to hsn hx8
  obtain ⟨v1, c1, g1, s1⟩ := h.rows.get hsn
  refine T.skip (T.s (T.block (T.s (T.rg (TO.q (q_ix (i := i) underlying26 inf5 rfl rfl (Sl.o hl.pre)) (TO.q (q_ld underlying5 rfl rfl (Sl.o hl.pre) byts_get) (TO.qa rfl (TO.nl (T.rg (TO.q (q_fa underlying25 rfl inf22 rfl rfl) (TO.q (q_lb 1 underlying22 rfl rfl rfl rfl) (TO.qm rfl (TO.q (q_ix (i := s) underlying22 inf23 rfl rfl (Sl.o h.outer) hsn (hvl ▸ hsn)) (TO.q (q_ld underlying23 rfl rfl (Sl.o h.outer) g1) (TO.qm rfl (TO.q (q_ix (i := l.pre[i]) underlying23 inf3 rfl rfl (Sl.o s1) hxk1 (by rw [List.length_map]; exact hxk1)) (TO.q (q_ld underlying3 rfl rfl (Sl.o s1) hx1) (TO.qa rfl (TO.nl (T.rg (TO.q (q_addN (a := i) (b := 1) rfl rfl (by omega)) (TO.qm rfl ?_))))))))))))))))))))))
  refine TO.nl ?_
  exact ⟨i + 1, by omega, [oI z2 28 (lC l kl), oI z1 25 (pC p k)], (by exact Sub.rf), toN p.d s l.pre[i], rfl, by omega, by rw [runN_at hil, hrs], (.of rfl)⟩
 have hge36 : ¬ i < l.pre.length := by omega
 refine T.exit ?_
 refine T.s (T.rg (TO.l rfl (l_makeMap KIn KIn (fun m3 => ?_))))
 refine TO.qa rfl (TO.nl (T.s (T.rg (TO.qa rfl (TO.nl (T.block ?_))))))
 have hs0 : s = (Lx.runN p.d p.d.start.toNat l.pre) := by rw [← hrs, List.take_of_length_le (by omega)]
 have hs0n : (Lx.runN p.d p.d.start.toNat l.pre) < p.next.length := runN_lt hv.val hv.st _ hV.pw
 subst hs0
 refine T.nilRow 3 1 ?_
 refine T.loopS (fun (J : Nat) ρ O => ∃ (ob : Option Addr) (oc s : Nat), O = [rowI ob oc 3 1 (ints (topL p l.loop (Lx.runN p.d p.d.start.toNat l.pre) J)), mapI KIn KIn m3 (mpR p.d l.loop (Lx.runN p.d p.d.start.toNat l.pre) J), oI z2 28 (lC l kl), oI z1 25 (pC p k)] ∧ OrbD p.d l.loop (Lx.runN p.d p.d.start.toNat l.pre) J ∧ orbN p.d l.loop (Lx.runN p.d p.d.start.toNat l.pre) J = s ∧ Heads [(0, (pV p k)), (1, (lV l kl)), (2, (.pointer (aD z1))), (3, (.pointer (aD z2))), (6, vI (checkP p : Int)), (7, vI (checkLV p.vars l : Int)), (8, vI ((s : Nat) : Int)), (11, (.map (some m3))), (12, (.slice ob J oc))] ρ) (fun J => p.next.length - J) 0 ?_ ?_
 ·exact ⟨none, 0, _, rfl, OrbD.zero _ _ _, rfl, (.of rfl)⟩
 rintro J ρ O ⟨ob, oc, s, rfl, hD, hsJ, hH⟩
 obtain ⟨ρ0, rfl⟩ := hH.elim
 clear hH
 obtain ⟨fr, hfr⟩ : ∃ o : Option Int, lookL ((s : Nat) : Int) (mpR p.d l.loop (Lx.runN p.d p.d.start.toNat l.pre) J) = o := ⟨_, rfl⟩
 have hJn : J ≤ p.next.length := hD.le hv.val hV.lw hs0n
 have hsn : s < p.next.length := by rw [← hsJ]; exact orbN_lt hv.val hV.lw hs0n J
 refine T.block (T.s (T.s (T.rg ?_)))
 refine TO.qm rfl (TO.qm rfl (TO.q (QT.cast (q_lookupOk (a := ((s : Nat) : Int)) underlying62 inf3 (KeyOk.int underlying3) rfl rfl (mG 1 rfl)) (v' := (.tuple #[vI (fr.getD 0), .bool fr.isSome])) (by rw [hfr]; cases fr <;> rfl)) (TO.qm rfl (TO.q (q_extract (vs := _) rfl rfl) (TO.q (q_extract (vs := _) rfl rfl) (TO.qa rfl (TO.qa rfl (TO.nl (T.s (T.rg (TO.qm rfl (TO.nl (T.condP (p := fr.isSome = true) (congrArg Value.bool (by cases fr <;> rfl)) (fun hc => ?_) (fun hc => ?_))))))))))))))
 ·obtain ⟨v9, hv9⟩ := Option.isSome_iff_exists.1 hc
  subst hv9
  obtain ⟨j, hjJ, rfl, hje⟩ := mpR_hit hfr
  refine T.s ?_
  refine T.have (φ := (topL p l.loop (Lx.runN p.d p.d.start.toNat l.pre) J).length ≤ oc) (fun w9 hI => by have := rowP.cap (hI.row (i := 0) rfl); simpa using this) (fun hcap => ?_)
  rw [topL_len] at hcap
  refine T.rg (TO.qm rfl (TO.q (QT.cast (q_move rfl) (v' := vI ((j : Nat) : Int)) rfl) (TO.q (q_sliceFrom (lo := j) underlying23 inf3 rfl rfl (by omega) (by omega)) ?_)))
  have hk59 := fun (w1 : World) (hI : Inv w [rowI ob oc 3 1 (ints (topL p l.loop (Lx.runN p.d p.d.start.toNat l.pre) J)), mapI KIn KIn m3 (mpR p.d l.loop (Lx.runN p.d p.d.start.toNat l.pre) J), oI z2 28 (lC l kl), oI z1 25 (pC p k)] w1) => (haveI := Inv.tab (P := Tryd.prog) hI; (by
   have hd9 : ((topL p l.loop (Lx.runN p.d p.d.start.toNat l.pre) J).drop j).length = J - j := by rw [List.length_drop, topL_len]
   have h9 := slicesMax w1 (subB ob oc j 1) (oc - j) ((topL p l.loop (Lx.runN p.d p.d.start.toNat l.pre) J).drop j) (Sl.idrop (hI.slOf (mG 0 rfl)) j (by rw [topL_len]; exact hcap)) (by omega) (by omega)
   rw [hd9] at h9; exact h9))
  refine TO.l rfl (l_call ent41 (CallT.op hk59) rfl ?_)
  clear hk59
  rintro vr O' ⟨N, rfl, ⟨m1, rfl, hm1, hall1⟩, rfl⟩
  refine TO.qa rfl (TO.qa rfl (TO.nl (T.ret (Res.drop ?_))))
  refine Res.two (vI m1) (vI 0) Tryd.results15 rfl rfl ?_
  have hm9 := run_hit hV.l0 hjJ (hje.trans hsJ.symm) hm1 hall1
  exact ⟨[], Sub.z, by rw [hm9, show ruV p l = infP p l.at from if_pos (ruE_zero.2 ⟨hv, by omega⟩), show ruE p l = 0 from ruE_zero.2 ⟨hv, by omega⟩]; rfl, rfl⟩
 have hno : ∀ j, j < J → orbN p.d l.loop (Lx.runN p.d p.d.start.toNat l.pre) j ≠ orbN p.d l.loop (Lx.runN p.d p.d.start.toNat l.pre) J := by
  rw [hsJ]; exact mpR_none (by rw [hfr]; cases fr with | none => rfl | some _ => exact absurd rfl hc)
 refine T.skip (T.s (T.rg (TO.qm rfl (TO.qm rfl (TO.qm rfl (TO.q (q_len underlying23 rfl) (TO.l rfl (l_mapPut (a := ((s : Nat) : Int)) (v := ((J : Nat) : Int)) 1 underlying62 (KeyOk.int underlying3) rfl rfl rfl rfl (hsJ ▸ mpR_fresh hno) ?_))))))))
 refine TO.nl (T.s (T.rg (TO.qa rfl (TO.nl (T.s (T.s (T.rg (TO.q (q_fa underlying28 rfl inf26 rfl rfl) (TO.q (q_lb 2 underlying26 rfl rfl rfl rfl) (TO.q (q_len underlying26 rfl) (TO.qm rfl (TO.nl (T.block ?_)))))))))))))
 refine T.loopS (fun (i : Nat) ρ O => ∃ (s2 t2 : Nat), O = [rowI ob oc 3 1 (ints (topL p l.loop (Lx.runN p.d p.d.start.toNat l.pre) J)), mapI KIn KIn m3 ((mpR p.d l.loop (Lx.runN p.d p.d.start.toNat l.pre) J) ++ [(((s : Nat) : Int), ((J : Nat) : Int))]), oI z2 28 (lC l kl), oI z1 25 (pC p k)] ∧ i ≤ l.loop.length ∧ Lx.runN p.d s (l.loop.take i) = s2 ∧ topP p s (l.loop.take i) = t2 ∧ Heads [(0, (pV p k)), (1, (lV l kl)), (2, (.pointer (aD z1))), (3, (.pointer (aD z2))), (6, vI (checkP p : Int)), (7, vI (checkLV p.vars l : Int)), (8, vI ((s2 : Nat) : Int)), (11, (.map (some m3))), (12, (.slice ob J oc)), (13, vI (fr.getD 0)), (14, .bool fr.isSome), (15, vI ((t2 : Nat) : Int)), (65, (.slice kl.lb l.loop.length kl.lc)), (66, vI (l.loop.length : Int)), (67, vI ((i : Nat) : Int))] ρ) (fun i => l.loop.length - i) 0 ?_ ?_
 ·exact ⟨s, 0, rfl, Nat.zero_le _, rfl, rfl, (.of rfl)⟩
 rintro i ρ O ⟨s2, t2, rfl, hi, hs2, ht2, hH⟩
 obtain ⟨ρ0, rfl⟩ := hH.elim
 clear hH
 refine T.s (T.rg (TO.q (q_lss rfl rfl) (TO.nl (T.s (T.condP rfl (fun hc => ?_) (fun hc => ?_))))))
 ·have hlt68 : i < l.loop.length := by omega
  have hsn2 : s2 < p.next.length := by rw [← hs2]; exact runN_lt hv.val hsn _ (hV.lw.take i)
  have hil : i < l.loop.length := by omega
  have hx8 : l.loop[i] < letN p.d := hV.lw _ (List.getElem_mem hil)
  obtain ⟨hto, hxk1, hx1, hx1i⟩ := hv.to hsn2 hx8
  obtain ⟨v1, c1, g1, s1⟩ := h.rows.get hsn2
  have hto9 : toN p.d s2 l.loop[i] < p.prio.length := by rw [hv.pl]; exact hto
  refine T.skip (T.s (T.block (T.s (T.rg (TO.q (q_ix (i := i) underlying26 inf5 rfl rfl (Sl.o hl.loop)) (TO.q (q_ld underlying5 rfl rfl (Sl.o hl.loop) byts_get) (TO.qa rfl (TO.nl (T.s (T.rg (TO.q (q_fa underlying25 rfl inf22 rfl rfl) (TO.q (q_lb 3 underlying22 rfl rfl rfl rfl) (TO.qm rfl (TO.q (q_ix (i := s2) underlying22 inf23 rfl rfl (Sl.o h.outer) hsn2 (hvl ▸ hsn2)) (TO.q (q_ld underlying23 rfl rfl (Sl.o h.outer) g1) (TO.qm rfl (TO.q (q_ix (i := l.loop[i]) underlying23 inf3 rfl rfl (Sl.o s1) hxk1 (by rw [List.length_map]; exact hxk1)) (TO.q (q_ld underlying3 rfl rfl (Sl.o s1) hx1) (TO.qa rfl (TO.nl (T.rg (TO.qm rfl (TO.q (q_fa underlying25 rfl inf23 rfl rfl) (TO.q (q_lb 3 underlying23 rfl rfl rfl rfl) (TO.qm rfl ?_)))))))))))))))))))))))))
  refine TO.q (q_ix (i := (toN p.d s2 l.loop[i])) underlying23 inf3 rfl rfl (Sl.o h.prio) hto9 (by rw [List.length_map]; exact hto9)) (TO.q (q_ld underlying3 rfl rfl (Sl.o h.prio) (by rw [ints, List.getElem?_map, hv.prAt hto]; rfl)) (TO.q (q_maxN (a := t2) (b := (prN p (toN p.d s2 l.loop[i]))) rfl rfl) (TO.qa rfl ?_)))
  refine TO.nl (T.rg (TO.q (q_addN (a := i) (b := 1) rfl rfl (by omega)) (TO.qm rfl (TO.nl ?_))))
  exact ⟨i + 1, by omega, [rowI ob oc 3 1 (ints (topL p l.loop (Lx.runN p.d p.d.start.toNat l.pre) J)), mapI KIn KIn m3 ((mpR p.d l.loop (Lx.runN p.d p.d.start.toNat l.pre) J) ++ [(((s : Nat) : Int), ((J : Nat) : Int))]), oI z2 28 (lC l kl), oI z1 25 (pC p k)], (by exact Sub.rf), toN p.d s2 l.loop[i], max t2 (prN p (toN p.d s2 l.loop[i])), rfl, by omega, by rw [runN_at hil, hs2], by rw [topP_at hil, ht2, runN_at hil, hs2], (.of rfl)⟩
 have hge68 : ¬ i < l.loop.length := by omega
 refine T.exit ?_
 refine T.rg (TO.qm rfl (TO.qm rfl (TO.l rfl (l_build1 (v := vI ((t2 : Nat) : Int)) underlying23 inf3 rfl rfl rfl (fun z4 => ?_)))))
 refine TO.l rfl (l_append 1 underlying23 underlying23 inf3 rfl rfl rfl rfl (by rw [List.length_map, topL_len, Nat.mul_one]) (by decide) (Src.row (j := 0) rfl (by simp)) (by simp [oneB]) (by omega) (by decide) (by decide) (fun z5 zc6 => ?_))
 refine TO.qa rfl (TO.nl ?_)
 have hi9 : l.loop.take i = l.loop := List.take_of_length_le (by omega)
 rw [hi9] at hs2 ht2
 have hsJ2 : orbN p.d l.loop (Lx.runN p.d p.d.start.toNat l.pre) (J + 1) = s2 := by
  show Lx.runN p.d (orbN p.d l.loop (Lx.runN p.d p.d.start.toNat l.pre) J) l.loop = s2
  rw [hsJ]; exact hs2
 have hD2 := hD.succ hno
 have hJ2 : J + 1 ≤ p.next.length := hD2.le hv.val hV.lw hs0n
 refine ⟨J + 1, by omega, [rowI z5 zc6 3 1 ((ints (topL p l.loop (Lx.runN p.d p.d.start.toNat l.pre) J)) ++ [vI ((t2 : Nat) : Int)]), mapI KIn KIn m3 ((mpR p.d l.loop (Lx.runN p.d p.d.start.toNat l.pre) J) ++ [(((s : Nat) : Int), ((J : Nat) : Int))]), oI z2 28 (lC l kl), oI z1 25 (pC p k)], (by exact Sub.d (.k (.k (.k (.k .z))))), z5, zc6, s2, ?_, hD2, hsJ2, (.of rfl)⟩
 rw [mpR_succ, topL_succ, hsJ, ht2]; simp only [ints, List.map_append]; rfl
noncomputable def acB (p : Par) (l : La) : Bool := decide (ruE p l = 0 ∧ ruV p l % 2 = 0)
theorem parAcc (w : World) [Tab Tryd.prog w] (p : Par) (k : DK) (h : AtP w p k) (hB : ParC p) (l : La) (kl : LK) (hl : AtL w l kl) (hL : LaB l) :
  PureT Tryd.prog 17 [pV p k, lV l kl] w fun v N => v = .tuple #[.bool (acB p l), vI (ruE p l : Int)] ∧ N = [] := by
 refine CallT.enter func17 rfl ntmps17 rfl ?_
 refine T.s (T.rg (TO.l rfl (l_box (v := (pV p k)) (cs := (pC p k)) rfl rfl (fun bx1 => ?_))))
 refine TO.l rfl (l_box (v := (lV l kl)) (cs := (lC l kl)) rfl rfl (fun bx2 => ?_))
 refine TO.qa rfl (TO.qa rfl (TO.nl (T.s (T.rg (TO.q (q_la 1 underlying25 rfl inf25 rfl rfl rfl) (TO.q (q_la 0 underlying28 rfl inf28 rfl rfl rfl) ?_))))))
 have hk11 := fun (w1 : World) (hI : Inv w [oI bx2 28 (lC l kl), oI bx1 25 (pC p k)] w1) => (haveI := Inv.tab (P := Tryd.prog) hI; parRun w1 p k (hI.atQ h) hB l kl (hI.la hl) hL)
 refine TO.l rfl (l_call ent15 (CallT.op hk11) rfl ?_)
 clear hk11
 rintro vr O' ⟨N, rfl, rfl, rfl⟩
 refine TO.qm rfl (TO.q (q_extract (vs := _) rfl rfl) (TO.q (q_extract (vs := _) rfl rfl) (TO.qa rfl (TO.qa rfl (TO.nl (T.s (T.rg (TO.qm rfl ?_))))))))
 by_cases h15 : ((ruE p l : Nat) : Int) = 0
 ·refine TO.q (QT.toB (q_eql rfl rfl) (decide_eq_true h15)) ?_
  refine TO.qm rfl (TO.gq rfl rfl (q_move rfl) (TO.gq rfl rfl (q_remN (a := (ruV p l)) (b := 2) rfl rfl (by omega)) ?_))
  by_cases h19 : ((ruV p l % 2 : Nat) : Int) = 0
  ·refine TO.gq rfl rfl (QT.toB (q_eql rfl rfl) (decide_eq_true h19)) ?_
   refine TO.q (q_pick1 rfl rfl) (TO.qm rfl (TO.qa rfl (TO.qa rfl (TO.nl (T.ret (Res.drop ?_))))))
   refine Res.two (.bool true) (vI ((ruE p l : Nat) : Int)) Tryd.results17 rfl rfl ?_
   exact ⟨[], Sub.z, by rw [show acB p l = true from decide_eq_true (by omega)], rfl⟩
  refine TO.gq rfl rfl (QT.toB (q_eql rfl rfl) (decide_eq_false h19)) (TO.q (q_pick1 rfl rfl) (TO.qm rfl (TO.qa rfl (TO.qa rfl (TO.nl (T.ret (Res.drop ?_)))))))
  refine Res.two (.bool false) (vI ((ruE p l : Nat) : Int)) Tryd.results17 rfl rfl ?_
  exact ⟨[], Sub.z, by rw [show acB p l = false from decide_eq_false (by omega)], rfl⟩
 refine TO.q (QT.toB (q_eql rfl rfl) (decide_eq_false h15)) (TO.qm rfl (TO.pd rfl rfl (TO.pd rfl rfl (TO.pd rfl rfl (TO.q (q_pick0 rfl rfl) (TO.qm rfl (TO.qa rfl (TO.qa rfl (TO.nl (T.ret (Res.drop ?_)))))))))))
 refine Res.two (.bool false) (vI ((ruE p l : Nat) : Int)) Tryd.results17 rfl rfl ?_
 exact ⟨[], Sub.z, by rw [show acB p l = false from decide_eq_false (by omega)], rfl⟩
end Go.Proofs.YtnikhiohindggaaDoor


namespace Go.Proofs.YtnikhiohindggaaDoor
open Go.Lx Go.RowKit _root_.Go.Proofs.Tryd
theorem cloneINil (w : World) [Tab Tryd.prog w] (c : Nat) :
  PureT Tryd.prog 57 [.slice none 0 c] w fun v N => ∃ b' c', v = .slice b' 0 c' ∧ N = [rowI b' c' 3 1 []] := by
 refine CallT.enter func57 rfl ntmps57 rfl ?_
 refine T.s (T.rg (TO.qa rfl (TO.nl (T.s (T.s (T.rg (TO.qm rfl (TO.q (q_eqlNil underlying23 rfl rfl) (TO.nl ?_)))))))))
 refine T.cond1 rfl ?_
 refine T.s (T.nilRow 3 1 ?_)
 refine T.rg (TO.qa rfl (TO.nl (T.ret ?_)))
 refine Res.one nS Tryd.results57 rfl ?_
 exact ⟨_, _, rfl, rfl⟩
theorem cloneISome (w : World) [Tab Tryd.prog w] (a : Addr) (c : Nat) (xs : List Int) (h1 : Sl w (some a) (ints xs)) (hb : xs.length ≤ 1000000000) :
  PureT Tryd.prog 57 [.slice (some a) xs.length c] w fun v N => ∃ b' c', v = .slice b' xs.length c' ∧ N = [rowI b' c' 3 1 (ints xs)] := by
 refine CallT.enter func57 rfl ntmps57 rfl ?_
 refine T.s (T.rg (TO.qa rfl (TO.nl (T.s (T.s (T.rg (TO.qm rfl (TO.q (q_eqlNil underlying23 rfl rfl) (TO.nl (T.cond0 rfl (T.skip (T.s (T.rg (TO.l rfl (l_buildSlice (m := 0) (parts := []) (cs := []) underlying23 inf3 (by decide) (by simp [Instr.fill]) rfl (fun b1 => ?_))))))))))))))))
 refine TO.qm rfl (TO.l rfl (l_append 0 underlying23 underlying23 inf3 rfl rfl rfl rfl (by simp) (by decide) (Src.sl h1 (by simp)) (ints_one xs) (by omega) (by decide) (by decide) (fun bx1 c2 => ?_)))
 refine TO.qa rfl (TO.nl (T.ret ?_))
 refine Res.one (.slice bx1 (0 + xs.length) c2) Tryd.results57 rfl ?_
 exact ⟨_, _, by rw [Nat.zero_add], rfl⟩
theorem cloneI (w : World) [Tab Tryd.prog w] (b : Option Addr) (c : Nat) (xs : List Int) (h1 : Sl w b (ints xs)) (hb : xs.length ≤ 1000000000) :
  PureT Tryd.prog 57 [.slice b xs.length c] w fun v N => ∃ b' c', v = .slice b' xs.length c' ∧ N = [rowI b' c' 3 1 (ints xs)] := by
 cases b with
 | none =>
  have hx : xs = [] := by
   cases xs with
   | nil => rfl
   | cons x xs => obtain ⟨_, _, e⟩ := h1.addr (i := 0) (by simp); cases e
  subst hx
  exact cloneINil w c
 | some a => exact cloneISome w a c xs h1 hb
theorem cloneBNil (w : World) [Tab Tryd.prog w] (c : Nat) :
  PureT Tryd.prog 100 [.slice none 0 c] w fun v N => ∃ b' c', v = .slice b' 0 c' ∧ N = [rowI b' c' 5 1 []] := by
 refine CallT.enter func100 rfl ntmps100 rfl ?_
 refine T.s (T.rg (TO.qa rfl (TO.nl (T.s (T.s (T.rg (TO.qm rfl (TO.q (q_eqlNil underlying26 rfl rfl) (TO.nl ?_)))))))))
 refine T.cond1 rfl ?_
 refine T.s (T.nilRow 5 1 ?_)
 refine T.rg (TO.qa rfl (TO.nl (T.ret ?_)))
 refine Res.one nS Tryd.results100 rfl ?_
 exact ⟨_, _, rfl, rfl⟩
theorem cloneBSome (w : World) [Tab Tryd.prog w] (a : Addr) (c : Nat) (xs : List Nat) (h1 : Sl w (some a) (byts xs)) (hb : xs.length ≤ 1000000000) :
  PureT Tryd.prog 100 [.slice (some a) xs.length c] w fun v N => ∃ b' c', v = .slice b' xs.length c' ∧ N = [rowI b' c' 5 1 (byts xs)] := by
 refine CallT.enter func100 rfl ntmps100 rfl ?_
 refine T.s (T.rg (TO.qa rfl (TO.nl (T.s (T.s (T.rg (TO.qm rfl (TO.q (q_eqlNil underlying26 rfl rfl) (TO.nl (T.cond0 rfl (T.skip (T.s (T.rg (TO.l rfl (l_buildSlice (m := 0) (parts := []) (cs := []) underlying26 inf5 (by decide) (by simp [Instr.fill]) rfl (fun b1 => ?_))))))))))))))))
 refine TO.qm rfl (TO.l rfl (l_append 0 underlying26 underlying26 inf5 rfl rfl rfl rfl (by simp) (by decide) (Src.sl h1 (by simp)) (byts_one xs) (by omega) (by decide) (by decide) (fun bx1 c2 => ?_)))
 refine TO.qa rfl (TO.nl (T.ret ?_))
 refine Res.one (.slice bx1 (0 + xs.length) c2) Tryd.results100 rfl ?_
 exact ⟨_, _, by rw [Nat.zero_add], rfl⟩
theorem cloneB (w : World) [Tab Tryd.prog w] (b : Option Addr) (c : Nat) (xs : List Nat) (h1 : Sl w b (byts xs)) (hb : xs.length ≤ 1000000000) :
  PureT Tryd.prog 100 [.slice b xs.length c] w fun v N => ∃ b' c', v = .slice b' xs.length c' ∧ N = [rowI b' c' 5 1 (byts xs)] := by
 cases b with
 | none =>
  have hx : xs = [] := by
   cases xs with
   | nil => rfl
   | cons x xs => obtain ⟨_, _, e⟩ := h1.addr (i := 0) (by simp); cases e
  subst hx
  exact cloneBNil w c
 | some a => exact cloneBSome w a c xs h1 hb
theorem growB (w : World) [Tab Tryd.prog w] (n : Nat) (hn : n ≤ 1000000000) :
  PureT Tryd.prog 105 [nS, vI (n : Int)] w fun v N => ∃ b c, v = .slice b 0 c ∧ N = [rowI b c 5 1 []] := by
 refine CallT.enter func105 rfl ntmps105 rfl ?_
 refine T.s (T.rg (TO.qa rfl (TO.nl (T.s (T.s (T.rg (TO.qm rfl (TO.q (q_lss rfl rfl) (TO.nl (T.cond0 (congrArg Value.bool (decide_eq_false (by omega))) (T.skip (T.s (T.s (T.rg (TO.qm rfl (TO.qm rfl (TO.q (q_cap underlying26 rfl) (TO.qm rfl ?_))))))))))))))))))
 refine TO.q (q_len underlying26 rfl) (TO.q (q_subN (a := 0) (b := 0) rfl rfl (by omega) (by omega)) (TO.q (QT.cast (q_subN (a := n) (b := 0) rfl rfl (by omega) (by omega)) (v' := vI ((n : Nat) : Int)) (by rw [Nat.sub_zero])) (TO.qa rfl (TO.nl (T.s (T.rg (TO.qm rfl (TO.q (q_gtr rfl rfl) (TO.nl (T.condP rfl (fun hc => ?_) (fun hc => ?_)))))))))))
 ·have hlt16 : n > 0 := by omega
  refine T.rg (TO.qm rfl (TO.qm rfl (TO.q (q_cap underlying26 rfl) (TO.q (q_sliceTo (hi := 0) underlying26 inf5 rfl rfl (Nat.le_refl _)) (TO.qm rfl (TO.l rfl (l_appendZ (m := n) underlying26 underlying3 inf5 rfl rfl rfl (by omega) (by omega) (by decide) (by decide) (fun gb gc hgc => ?_))))))))
  refine TO.qm rfl (TO.q (q_len underlying26 rfl) (TO.l rfl (l_head (m := 0) 0 underlying26 inf5 rfl rfl rfl (by omega) ?_)))
  refine TO.sub (O' := [rowI gb gc 5 1 []]) (by rw [show (List.replicate n (Value.int .u8 0)).take (0 * 1) = [] from (by simp)]; exact Sub.of (List.Sublist.refl _)) ?_
  refine TO.qa rfl (TO.nl (T.s ?_))
  
  refine T.rg (TO.qm rfl (TO.qa rfl (TO.nl (T.ret (Res.drop ?_)))))
  refine Res.one (.slice gb 0 gc) Tryd.results105 rfl ?_
  exact ⟨_, Sub.of (List.Sublist.refl _), _, _, rfl, rfl⟩
 have hge16 : ¬ n > 0 := by omega
 refine T.skip (T.s (T.nilRow 5 1 ?_))
 refine T.rg (TO.qm rfl (TO.qa rfl (TO.nl (T.ret (Res.drop ?_)))))
 refine Res.one nS Tryd.results105 rfl ?_
 exact ⟨_, Sub.of (List.Sublist.refl _), _, _, rfl, rfl⟩
theorem concatB (w : World) [Tab Tryd.prog w] (b : Option Addr) (c : Nat) (vs : List Value) (ws : List (List Nat)) (hS : Sl w b vs) (hW : WordsR w vs ws) (hl : ws.length ≤ 1000000) (hb : ws.flatten.length ≤ 1000000000) :
  PureT Tryd.prog 101 [.slice b ws.length c] w fun v N => ∃ b' c', v = .slice b' ws.flatten.length c' ∧ N = [rowI b' c' 5 1 (byts ws.flatten)] := by
 refine CallT.enter func101 rfl ntmps101 rfl ?_
 refine T.s (T.rg (TO.qa rfl (TO.nl (T.s (T.rg (TO.qa rfl (TO.nl (T.s (T.s (T.rg (TO.qm rfl (TO.q (q_len underlying129 rfl) (TO.qm rfl (TO.nl (T.block ?_)))))))))))))))
 refine T.loop (fun (k : Nat) ρ O => O = [] ∧ k ≤ ws.length ∧ Heads [(0, (.slice b ws.length c)), (2, nS), (3, vI (((ws.take k).flatten.length : Nat) : Int)), (9, (.slice b ws.length c)), (10, vI (ws.length : Int)), (11, vI (k : Int))] ρ) (fun k => ws.length - k) 0 ?_ ?_
 ·exact ⟨rfl, Nat.zero_le _, (.of rfl)⟩
 rintro k ρ O ⟨rfl, hk, hH⟩
 obtain ⟨ρ0, rfl⟩ := hH.elim
 clear hH
 refine T.s (T.rg (TO.q (q_lss rfl rfl) (TO.nl (T.s (T.condP rfl (fun hc => ?_) (fun hc => ?_))))))
 ·have hlt12 : k < ws.length := by omega
  obtain ⟨rb, rc, g1, s1⟩ := hW.get hlt12
  have hfl := flat_le (ws := ws) (k + 1)
  rw [flat_take hlt12, List.length_append] at hfl
  refine T.skip (T.s (T.block (T.s (T.rg (TO.q (q_ix (i := k) underlying129 inf26 rfl rfl (Sl.o hS) (by first | assumption | omega | (simp; omega) | simp_all) (by rw [hW.1]; exact hlt12)) (TO.q (q_ld underlying26 rfl rfl (Sl.o hS) g1) (TO.qa rfl (TO.nl (T.s (T.rg (TO.qm rfl (TO.qm rfl (TO.q (q_len underlying26 rfl) (TO.q (q_addN (a := ((ws.take k).flatten.length)) (b := ws[k].length) rfl rfl (by omega)) (TO.qa rfl (TO.nl (T.s (T.rg (TO.qm rfl (TO.q (q_lss rfl rfl) (TO.nl ?_)))))))))))))))))))))
  refine T.cond0 (congrArg Value.bool (decide_eq_false (by omega))) (T.skip (T.rg (TO.q (q_addN (a := k) (b := 1) rfl rfl (by omega)) (TO.qm rfl (TO.nl ?_)))))
  refine ⟨k + 1, by omega, rfl, by omega, ?_⟩
  rw [flat_take hlt12, List.length_append]; exact (.of rfl)
 have hge12 : ¬ k < ws.length := by omega
 refine T.exit ?_
 refine T.s (T.rg (TO.qm rfl ?_))
 have hk24 := fun (w1 : World) (hI : Inv w [] w1) => (haveI := Inv.tab (P := Tryd.prog) hI; growB w1 (ws.take k).flatten.length (by have := flat_le (ws := ws) k; omega))
 refine TO.l rfl (l_call ent105 (CallT.op hk24) rfl ?_)
 clear hk24
 rintro vr O' ⟨N, rfl, gb, gc, rfl, rfl⟩
 refine TO.qa rfl (TO.nl (T.s (T.s (T.rg (TO.qm rfl (TO.q (q_len underlying129 rfl) (TO.qm rfl (TO.nl (T.block ?_)))))))))
 refine T.loop (fun (j : Nat) ρ O => ∃ (gb2 : Option Addr) (gc2 : Nat), O = [rowI gb2 gc2 5 1 (byts (ws.take j).flatten)] ∧ j ≤ ws.length ∧ Heads [(0, (.slice b ws.length c)), (2, nS), (3, vI (((ws.take k).flatten.length : Nat) : Int)), (6, (.slice gb2 ((ws.take j).flatten.length) gc2)), (25, (.slice b ws.length c)), (26, vI (ws.length : Int)), (27, vI (j : Int))] ρ) (fun j => ws.length - j) 0 ?_ ?_
 ·exact ⟨gb, gc, rfl, Nat.zero_le _, (.of rfl)⟩
 rintro j ρ O ⟨gb2, gc2, rfl, hj, hH⟩
 obtain ⟨ρ0, rfl⟩ := hH.elim
 clear hH
 refine T.s (T.rg (TO.q (q_lss rfl rfl) (TO.nl (T.s (T.condP rfl (fun hc => ?_) (fun hc => ?_))))))
 ·have hlt28 : j < ws.length := by omega
  obtain ⟨rb, rc, g1, s1⟩ := hW.get hlt28
  have hfl := flat_le (ws := ws) (j + 1)
  rw [flat_take hlt28, List.length_append] at hfl
  refine T.skip (T.s (T.block (T.s (T.rg (TO.q (q_ix (i := j) underlying129 inf26 rfl rfl (Sl.o hS) (by first | assumption | omega | (simp; omega) | simp_all) (by rw [hW.1]; exact hlt28)) (TO.q (q_ld underlying26 rfl rfl (Sl.o hS) g1) (TO.qa rfl (TO.nl (T.rg (TO.qm rfl (TO.qm rfl (TO.l rfl (l_append 0 underlying26 underlying26 inf5 rfl rfl rfl rfl (by rw [List.length_map, Nat.mul_one]) (by decide) (Src.sl s1 (by simp)) (byts_one ws[j]) (by omega) (by decide) (by decide) (fun bx1 c2 => ?_))))))))))))))
  refine TO.qa rfl (TO.nl (T.rg (TO.q (q_addN (a := j) (b := 1) rfl rfl (by omega)) (TO.qm rfl (TO.nl ?_)))))
  have e := flat_take hlt28
  refine ⟨j + 1, by omega, bx1, c2, ?_, by omega, ?_⟩
  ·rw [e, show byts ((ws.take j).flatten ++ ws[j]) = byts (ws.take j).flatten ++ byts ws[j] from List.map_append]; rfl
  ·rw [e, List.length_append]; exact (.of rfl)
 have hge28 : ¬ j < ws.length := by omega
 refine T.exit ?_
 refine T.s (T.rg (TO.qm rfl (TO.qa rfl (TO.nl (T.ret (Res.drop ?_))))))
 refine Res.one (.slice gb2 ((ws.take j).flatten.length) gc2) Tryd.results101 rfl ?_
 have hke : j = ws.length := by omega
 subst hke
 rw [List.take_length]
 exact ⟨_, Sub.of (List.Sublist.refl _), _, _, rfl, rfl⟩
theorem reverseB (base : World) [Tab Tryd.prog base] (b : Option Addr) (c c' : Nat) (xs : List Nat) (hb : xs.length ≤ 1000000000) :
  CallT Tryd.prog base 97 [.slice b xs.length c'] [rowI b c 5 1 (byts xs)] (fun _ O' => O' = [rowI b c 5 1 (byts xs.reverse)]) := by
 refine CallT.enter func97 rfl ntmps97 rfl ?_
 refine T.s (T.rg (TO.qm rfl (TO.q (q_len underlying26 rfl) (TO.q (q_sub64 rfl rfl (by omega)) (TO.qa rfl (TO.qa rfl (TO.nl (T.block ?_))))))))
 refine T.loop (fun (i : Nat) ρ O => ∃ (ys : List Nat), O = [rowI b c 5 1 (byts ys)] ∧ i ≤ xs.length ∧ ys.length = xs.length ∧ (∀ q, q < xs.length → ys[q]? = if q < i ∨ xs.length ≤ q + i then xs[xs.length - 1 - q]? else xs[q]?) ∧ Heads [(0, (.slice b xs.length c')), (2, vI (i : Int)), (3, vI ((xs.length : Int) - 1 - (i : Int)))] ρ) (fun i => xs.length - i) 0 ?_ ?_
 ·exact ⟨xs, rfl, Nat.zero_le _, rfl, (fun q hq => by rw [if_neg (by omega)]), ⟨rfl, rfl, (by show Value.int .i64 ((xs.length : Int) - 1) = Value.int .i64 ((xs.length : Int) - 1 - ((0 : Nat) : Int)); congr 1; omega), trivial⟩⟩
 rintro i ρ O ⟨ys, rfl, hi, hyl, hys, hH⟩
 obtain ⟨ρ0, rfl⟩ := hH.elim
 clear hH
 refine T.s (T.s (T.rg (TO.qm rfl (TO.qm rfl (TO.q (q_lss rfl rfl) (TO.nl (T.condP rfl (fun hc => ?_) (fun hc => ?_))))))))
 ·obtain ⟨j, hj⟩ : ∃ j : Nat, (xs.length : Int) - 1 - i = (j : Int) := ⟨xs.length - 1 - i, by omega⟩
  have hij : i < j := by omega
  have hjl : j < xs.length := by omega
  refine T.skip (T.s (T.block ?_))
  refine T.draws2 [] [rowI b c 5 1 (byts ys)] [(0, 0), (1, 0), (2, 0), (3, 0), (4, 0), (5, 0), (6, 3), (7, 3), (8, 0), (9, 0), (10, 3), (11, 3), (12, 3), (13, 4), (14, 2), (15, 2)] mixed (drawF_ok (by kernel_rfl)) (Sub.of (List.nil_sublist _)) (Sub.pick [0] rfl) (fun _ _ _ h => h) ?_
  refine DO.q rfl (q_move rfl) (DO.q rfl (q_move rfl) (DO.q rfl (q_move rfl) (DO.q rfl (QT.cast (q_move rfl) (v' := vI ((j : Nat) : Int)) (by show Value.int _ _ = _; rw [← hj])) (DO.q rfl (q_move rfl) (DO.q rfl (QT.cast (q_move rfl) (v' := vI ((j : Nat) : Int)) (by show Value.int _ _ = _; rw [← hj])) ?_)))))
  refine DO.quiet2 rfl (q_ix (i := j) underlying26 inf5 rfl rfl (rowO (mG 0 rfl))) ?_
  refine DO.quiet2 rfl (q_ld underlying5 rfl rfl (rowO (mG 0 rfl)) byts_get) ?_
  refine DO.q rfl (q_move rfl) (DO.q rfl (q_move rfl) ?_)
  refine DO.quiet2 rfl (q_ix (i := i) underlying26 inf5 rfl rfl (rowO (mG 0 rfl))) ?_
  refine DO.quiet2 rfl (q_ld underlying5 rfl rfl (rowO (mG 0 rfl)) byts_get) ?_
  refine DO.quiet2 rfl (q_ix (i := i) underlying26 inf5 rfl rfl (rowO (mG 0 rfl))) ?_
  refine DO.last2 rfl rfl (l_st (j := i) (v := .int .u8 ((ys[j] : Nat) : Int)) (vs := [(.int .u8 ((ys[j] : Nat) : Int))]) (cs := byts ys) 0 inf5 rfl rfl rfl rfl rfl (by simp) rfl (by first | (simp; omega) | (simp_all; omega)) ⟨Sub.pick [] rfl, ?_⟩)
  refine DO.sub (O' := [rowI b c 5 1 (byts (ys.set i ys[j]))]) (by rw [show putL (byts ys) i [(.int .u8 ((ys[j] : Nat) : Int))] = byts (ys.set i ys[j]) from (by simp [putL])]; exact Sub.of (List.Sublist.refl _)) ?_
  refine DO.last rfl rfl (LT.oq rfl rfl (q_ix (i := j) underlying26 inf5 rfl rfl (rowO (mG 0 rfl))) ?_)
  refine DO.last rfl rfl (l_st (j := j) (v := .int .u8 ((ys[i] : Nat) : Int)) (vs := [(.int .u8 ((ys[i] : Nat) : Int))]) (cs := byts (ys.set i ys[j])) 0 inf5 rfl rfl rfl rfl rfl (by simp) rfl (by first | (simp; omega) | (simp_all; omega)) ?_)
  refine DO.sub (O' := [rowI b c 5 1 (byts ((ys.set i ys[j]).set j ys[i]))]) (by rw [show putL (byts (ys.set i ys[j])) j [(.int .u8 ((ys[i] : Nat) : Int))] = byts ((ys.set i ys[j]).set j ys[i]) from (by simp [putL])]; exact Sub.of (List.Sublist.refl _)) ?_
  refine DO.done ?_
  refine T.rg (TO.qm rfl (TO.q (q_addN (a := i) (b := 1) rfl rfl (by omega)) (TO.qm rfl (TO.q (q_sub64 rfl rfl (by omega)) (TO.qa rfl (TO.qa rfl (TO.nl ?_)))))))
  refine ⟨i + 1, by omega, (ys.set i ys[j]).set j ys[i], rfl, by omega, by simp [hyl], fun q hq => ?_, ⟨rfl, rfl, ?_, trivial⟩⟩
  ·have h1 := hys i (by omega)
   have h2 := hys j hjl
   rw [List.getElem?_eq_getElem (by omega), if_neg (by omega)] at h1 h2
   rw [List.getElem?_set, List.getElem?_set]
   by_cases e1 : j = q
   ·subst e1
    rw [if_pos rfl, if_pos (by simp; omega), if_pos (by omega), h1]; congr 1; omega
   ·rw [if_neg e1]
    by_cases e2 : i = q
    ·subst e2
     rw [if_pos rfl, if_pos (by omega), if_pos (by omega), h2]; congr 1; omega
    ·rw [if_neg e2, hys q hq]
     by_cases e3 : q < i ∨ xs.length ≤ q + i
     ·rw [if_pos e3, if_pos (by omega)]
     ·rw [if_neg e3, if_neg (by omega)]
  ·show Value.int _ _ = Value.int _ _; congr 1; omega
 refine T.exit ?_
 refine Res.zero Tryd.results97 ?_
 have hyr : ys = xs.reverse := by
  apply List.ext_getElem?
  intro q
  by_cases hq : q < xs.length
  ·rw [hys q hq, List.getElem?_reverse hq]
   split
   ·rfl
   ·congr 1; omega
  ·rw [List.getElem?_eq_none (by omega), List.getElem?_eq_none (by simp; omega)]
 rw [hyr]
end Go.Proofs.YtnikhiohindggaaDoor


namespace Go.Proofs.YtnikhiohindggaaDoor
open Go.Lx Go.RowKit _root_.Go.Proofs.Tryd
theorem withC0 (base : World) [Tab Tryd.prog base] (p : Par) (k : DK) (h : AtP base p k) (hv : ValidP p) (OO : List Lx.Item) (fv : Value) (fp : Nat → Int) (hy : ∀ s, s < p.next.length → CallV Tryd.prog base fv [vI ((s : Nat) : Int)] OO (fun v O' => v = vI (fp s) ∧ O' = OO)) :
  CallT Tryd.prog base 44 [pV p k, fv] OO (fun v O' => ∃ nb' nc' fb' fc' qs, v = .agg (parCells (withP p fp) nb' nc' fb' fc').toArray ∧ O' = ([rowI nb' nc' 23 1 (vals qs), rowI fb' fc' 3 1 (ints (withP p fp).prio)] ++ itms 3 qs) ++ OO ∧ nums qs = p.next) := by
 refine CallT.enter func44 rfl ntmps44 rfl ?_
 have hvl := h.rows.1
 have h6 := hv.letN6
 have h4n := hv.n4
 refine T.s (T.rg (TO.l rfl (l_box (v := (pV p k)) (cs := (pC p k)) rfl rfl (fun z1 => ?_))))
 refine TO.l rfl (l_alloc inf25 rfl (fun z2 => ?_))
 refine TO.nl (T.s (T.rg (TO.q (q_fa underlying25 rfl inf3 rfl rfl) (TO.q (q_lb 1 underlying3 rfl rfl rfl rfl) (TO.q (q_fa underlying25 rfl inf3 rfl rfl) (TO.q (q_lb 1 underlying3 rfl rfl rfl rfl) (TO.q (q_build (cs := [(vI p.vars), (vI p.start), nS, nS]) plan25 inf25 (by kernel_rfl)) (TO.l rfl (l_alloc inf25 rfl (fun z3 => ?_))))))))))
 refine TO.l rfl (l_sb (v := (.agg #[(vI p.vars), (vI p.start), nS, nS])) (vs := [(vI p.vars), (vI p.start), nS, nS]) 0 inf25 rfl rfl rfl rfl rfl rfl (by simp [putL]) ?_)
 refine TO.nl (T.s (T.s (T.rg (TO.q (q_fa underlying25 rfl inf22 rfl rfl) (TO.q (q_lb 2 underlying22 rfl rfl rfl rfl) (TO.q (q_len underlying22 rfl) (TO.qm rfl (TO.nl (T.block (T.nilRow 23 1 (T.nilRow 3 1 ?_)))))))))))
 refine T.loopS (fun (s : Nat) ρ O => ∃ (nb fb : Option Addr) (nc fc : Nat) (qs : List Rec), O = ([rowI fb fc 3 1 (ints ((List.range s).map fp)), rowI nb nc 23 1 (vals qs), oI z3 25 [(vI p.vars), (vI p.start), (.slice nb s nc), (.slice fb s fc)], oI z2 25 [(vI 0), (vI 0), nS, nS], oI z1 25 (pC p k)] ++ (itms 3 qs ++ OO)) ∧ s ≤ p.next.length ∧ qs.length = s ∧ nums qs = p.next.take s ∧ Heads [(0, (pV p k)), (1, fv), (2, (.pointer (aD z1))), (4, (.pointer (aD z2))), (5, (.pointer (aD z3))), (14, (.slice k.nb p.next.length k.nc)), (15, vI (p.next.length : Int)), (16, vI ((s : Nat) : Int))] ρ) (fun s => p.next.length - s) 0 ?_ ?_
 ·exact ⟨none, none, 0, 0, [], rfl, Nat.zero_le _, rfl, rfl, (.of rfl)⟩
 rintro s ρ O ⟨nb, fb, nc, fc, qs, rfl, hs, hql, hqs, hH⟩
 obtain ⟨ρ0, rfl⟩ := hH.elim
 clear hH
 refine T.s (T.rg (TO.q (q_lss rfl rfl) (TO.nl (T.s (T.condP rfl (fun hc => ?_) (fun hc => ?_))))))
 ·have hlt17 : s < p.next.length := by omega
  have hlt : s < p.next.length := by omega
  obtain ⟨v1, c1, g1, s1⟩ := h.rows.get hlt
  have hr1 : p.next[s].length = letN p.d := hv.val.len _ (List.getElem_mem hlt)
  refine T.skip (T.s (T.block (T.s (T.rg (TO.qm rfl (TO.q (q_ix (i := s) underlying22 inf23 rfl rfl (Sl.o h.outer) hlt (hvl ▸ hlt)) (TO.q (q_ld underlying23 rfl rfl (Sl.o h.outer) g1) (TO.qa rfl (TO.qa rfl (TO.nl (T.s ?_)))))))))))
  refine T.draws _ [(0, 0), (1, 0), (2, 0), (3, 1), (4, 1), (5, 2), (6, 2), (7, 2)] mixed (by kernel_rfl) (Sub.of (List.Sublist.refl _)) (fun _ _ _ h => h) ?_
  refine DO.q rfl (q_fa underlying25 rfl inf22 rfl rfl) (DO.q rfl (q_lb 2 underlying22 rfl rfl rfl rfl) (DO.q rfl (q_move rfl) ?_))
  have hk24 := fun (w1 : World) (hI : Inv base ([rowI fb fc 3 1 (ints ((List.range s).map fp)), rowI nb nc 23 1 (vals qs), oI z3 25 [(vI p.vars), (vI p.start), (.slice nb s nc), (.slice fb s fc)], oI z2 25 [(vI 0), (vI 0), nS, nS], oI z1 25 (pC p k)] ++ (itms 3 qs ++ OO)) w1) => (haveI := Inv.tab (P := Tryd.prog) hI; cloneI w1 v1 c1 p.next[s] (hI.sl s1) (by omega))
  refine DO.loud rfl rfl (l_call ent57 (CallT.op hk24) rfl ?_)
  clear hk24
  rintro vr O' ⟨N, rfl, cb, cc, rfl, rfl⟩
  refine ⟨Sub.pickR [1, 1, 1, 1, 1] [rowI cb cc 3 1 (ints p.next[s]), rowI fb fc 3 1 (ints ((List.range s).map fp)), rowI nb nc 23 1 (vals qs), oI z3 25 [(vI p.vars), (vI p.start), (.slice nb s nc), (.slice fb s fc)], oI z2 25 [(vI 0), (vI 0), nS, nS], oI z1 25 (pC p k)] (itms 3 qs ++ OO) rfl rfl, ?_⟩
  refine DO.loud rfl rfl (l_build1 (v := (.slice cb p.next[s].length cc)) underlying22 inf23 rfl rfl rfl (fun z4 => ⟨Sub.pickR [2, 2, 2, 2, 2] [rowI (aD z4) 1 23 1 [(.slice cb p.next[s].length cc)], rowI cb cc 3 1 (ints p.next[s]), rowI fb fc 3 1 (ints ((List.range s).map fp)), rowI nb nc 23 1 (vals qs), oI z3 25 [(vI p.vars), (vI p.start), (.slice nb s nc), (.slice fb s fc)], oI z2 25 [(vI 0), (vI 0), nS, nS], oI z1 25 (pC p k)] (itms 3 qs ++ OO) rfl rfl, ?_⟩))
  refine DO.last rfl rfl (l_append 3 underlying22 underlying22 inf23 rfl rfl rfl rfl (by simp [hql]) (by decide) (Src.row (j := 0) rfl (by simp)) (by simp [oneB]) (by omega) (by decide) (by decide) (fun z5 zc6 => ?_))
  refine DO.last rfl rfl (LT.oq rfl rfl (q_fa underlying25 rfl inf22 rfl rfl) ?_)
  refine DO.last rfl rfl (l_sb (v := (.slice z5 (s + 1) zc6)) (vs := [(.slice z5 (s + 1) zc6)]) 4 inf22 rfl rfl rfl rfl rfl rfl (by simp [putL]) ?_)
  refine DO.done ?_
  refine T.sub (O' := [rowI (aD z4) 1 23 1 [(.slice cb p.next[s].length cc)], Rec.itm 3 ⟨cb, cc, p.next[s]⟩, rowI fb fc 3 1 (ints ((List.range s).map fp)), rowI z5 zc6 23 1 ((vals qs) ++ [(.slice cb p.next[s].length cc)]), oI z3 25 [(vI p.vars), (vI p.start), (.slice z5 (s + 1) zc6), (.slice fb s fc)], oI z2 25 [(vI 0), (vI 0), nS, nS], oI z1 25 (pC p k)] ++ (itms 3 qs ++ OO)) Sub.rf ?_
  refine T.sub (O' := [rowI fb fc 3 1 (ints ((List.range s).map fp)), rowI z5 zc6 23 1 (vals (qs ++ [⟨cb, cc, p.next[s]⟩])), oI z3 25 [(vI p.vars), (vI p.start), (.slice z5 (s + 1) zc6), (.slice fb s fc)], oI z2 25 [(vI 0), (vI 0), nS, nS], oI z1 25 (pC p k)] ++ (itms 3 (qs ++ [⟨cb, cc, p.next[s]⟩]) ++ OO)) (by rw [show vals (qs ++ [⟨cb, cc, p.next[s]⟩]) = vals qs ++ [Value.slice cb p.next[s].length cc] by simp [Rec.val]]; exact Sub.ca [rowI (aD z4) 1 23 1 [(.slice cb p.next[s].length cc)]]) ?_
  refine T.draws _ [(0, 0), (1, 0), (2, 0), (3, 0), (4, 1), (5, 1), (6, 2), (7, 2), (8, 2)] mixed (by kernel_rfl) (Sub.of (List.Sublist.refl _)) (fun _ _ _ h => h) ?_
  refine DO.q rfl (q_fa underlying25 rfl inf23 rfl rfl) (DO.q rfl (q_lb 2 underlying23 rfl rfl rfl rfl) (DO.q rfl (q_move rfl) (DO.q rfl (q_move rfl) ?_)))
  have hk32 := CallV.keepR ([rowI fb fc 3 1 (ints ((List.range s).map fp)), rowI z5 zc6 23 1 (vals (qs ++ [⟨cb, cc, p.next[s]⟩])), oI z3 25 [(vI p.vars), (vI p.start), (.slice z5 (s + 1) zc6), (.slice fb s fc)], oI z2 25 [(vI 0), (vI 0), nS, nS], oI z1 25 (pC p k)] ++ itms 3 (qs ++ [⟨cb, cc, p.next[s]⟩])) (hy s hlt)
  refine DO.loud rfl rfl (l_callG hk32 rfl rfl ?_)
  clear hk32
  rintro vr O' ⟨rfl, rfl⟩
  refine ⟨Sub.pickR [0, 0, 0, 0, 0] [rowI fb fc 3 1 (ints ((List.range s).map fp)), rowI z5 zc6 23 1 (vals (qs ++ [⟨cb, cc, p.next[s]⟩])), oI z3 25 [(vI p.vars), (vI p.start), (.slice z5 (s + 1) zc6), (.slice fb s fc)], oI z2 25 [(vI 0), (vI 0), nS, nS], oI z1 25 (pC p k)] (itms 3 (qs ++ [⟨cb, cc, p.next[s]⟩]) ++ OO) rfl rfl, ?_⟩
  refine DO.loud rfl rfl (l_build1 (v := vI (fp s)) underlying23 inf3 rfl rfl rfl (fun z7 => ⟨Sub.pickR [1, 1, 1, 1, 1] [rowI (aD z7) 1 3 1 [vI (fp s)], rowI fb fc 3 1 (ints ((List.range s).map fp)), rowI z5 zc6 23 1 (vals (qs ++ [⟨cb, cc, p.next[s]⟩])), oI z3 25 [(vI p.vars), (vI p.start), (.slice z5 (s + 1) zc6), (.slice fb s fc)], oI z2 25 [(vI 0), (vI 0), nS, nS], oI z1 25 (pC p k)] (itms 3 (qs ++ [⟨cb, cc, p.next[s]⟩]) ++ OO) rfl rfl, ?_⟩))
  refine DO.last rfl rfl (l_append 1 underlying23 underlying23 inf3 rfl rfl rfl rfl (by simp) (by decide) (Src.row (j := 0) rfl (by simp)) (by simp [oneB]) (by omega) (by decide) (by decide) (fun z8 zc9 => ?_))
  refine DO.last rfl rfl (LT.oq rfl rfl (q_fa underlying25 rfl inf23 rfl rfl) ?_)
  refine DO.last rfl rfl (l_sb (v := (.slice z8 (s + 1) zc9)) (vs := [(.slice z8 (s + 1) zc9)]) 3 inf23 rfl rfl rfl rfl rfl rfl (by simp [putL]) ?_)
  refine DO.done ?_
  refine T.rg (TO.q (q_addN (a := s) (b := 1) rfl rfl (by omega)) (TO.qm rfl (TO.nl ?_)))
  refine ⟨s + 1, by omega, ([rowI z8 zc9 3 1 ((ints ((List.range s).map fp)) ++ [vI (fp s)]), rowI z5 zc6 23 1 (vals (qs ++ [⟨cb, cc, p.next[s]⟩])), oI z3 25 [(vI p.vars), (vI p.start), (.slice z5 (s + 1) zc6), (.slice z8 (s + 1) zc9)], oI z2 25 [(vI 0), (vI 0), nS, nS], oI z1 25 (pC p k)] ++ (itms 3 (qs ++ [⟨cb, cc, p.next[s]⟩]) ++ OO)), (Sub.pickR [1, 1, 1, 1, 1] [rowI (aD z7) 1 3 1 [vI (fp s)], rowI z8 zc9 3 1 ((ints ((List.range s).map fp)) ++ [vI (fp s)]), rowI z5 zc6 23 1 (vals (qs ++ [⟨cb, cc, p.next[s]⟩])), oI z3 25 [(vI p.vars), (vI p.start), (.slice z5 (s + 1) zc6), (.slice z8 (s + 1) zc9)], oI z2 25 [(vI 0), (vI 0), nS, nS], oI z1 25 (pC p k)] (itms 3 (qs ++ [⟨cb, cc, p.next[s]⟩]) ++ OO) rfl rfl), z5, z8, zc6, zc9, qs ++ [⟨cb, cc, p.next[s]⟩], ?_, by omega, by simp [hql], ?_, (.of rfl)⟩
  ·simp [List.range_succ]
  ·rw [List.take_succ_eq_append_getElem hlt, ← hqs]; simp
 have hge17 : ¬ s < p.next.length := by omega
 refine T.exit ?_
 refine T.s (T.rg (TO.q (q_la 2 underlying25 rfl inf25 rfl rfl rfl) (TO.l rfl (l_sb (v := (.agg #[(vI p.vars), (vI p.start), (.slice nb s nc), (.slice fb s fc)])) (vs := [(vI p.vars), (vI p.start), (.slice nb s nc), (.slice fb s fc)]) 3 inf25 rfl rfl rfl rfl rfl rfl (by simp [putL]) ?_))))
 refine TO.nl (T.ret (Res.drop ?_))
 refine Res.cell1 (i := 3) Tryd.results44 underlying25 rfl inf25 rfl rfl rfl ?_
 have hse : s = p.next.length := by omega
 subst hse
 have hln : ((List.range p.next.length).map fp).length = p.next.length := by simp
 exact ⟨([rowI nb nc 23 1 (vals qs), rowI fb fc 3 1 (ints ((List.range p.next.length).map fp))] ++ itms 3 qs) ++ OO, Sub.ca [oI z3 25 [(vI p.vars), (vI p.start), (.slice nb p.next.length nc), (.slice fb p.next.length fc)], oI z2 25 [(vI p.vars), (vI p.start), (.slice nb p.next.length nc), (.slice fb p.next.length fc)], oI z1 25 (pC p k)], nb, nc, fb, fc, qs, by show _ = Value.agg #[vI p.vars, vI p.start, .slice nb p.next.length nc, .slice fb ((List.range p.next.length).map fp).length fc]; rw [hln]; rfl, rfl, by rw [hqs, List.take_length]⟩
theorem withK (base : World) [Tab Tryd.prog base] [Tab Tryd.prog base] (p : Par) (k : DK) (h : AtP base p k) (hv : ValidP p) (OO : List Lx.Item) (fv : Value) (fp : Nat → Int) (hy : ∀ s, s < p.next.length → CallV Tryd.prog base fv [vI ((s : Nat) : Int)] OO (fun v O' => v = vI (fp s) ∧ O' = OO)) :
  CallT Tryd.prog base 44 [pV p k, fv] OO (fun v O' => ∃ k' : DK, v = pV (withP p fp) k' ∧ O' = pI 23 3 (withP p fp) k' :: OO) :=
 (withC0 base p k h hv OO fv fp hy).packR fun v O' hR => by
  obtain ⟨nb, nc, fb, fc, qs, rfl, rfl, hq⟩ := hR
  exact ⟨nums qs = (withP p fp).next, _, OO, hq, rfl, ⟨nb, nc, fb, fc, qs⟩, rfl, rfl⟩
theorem coF (base : World) [Tab Tryd.prog base] (p : Par) (k : DK) (h : AtP base p k) (hv : ValidP p) (bx s : Nat) (hs : s < p.next.length) :
  CallT Tryd.prog base 45 [vI ((s : Nat) : Int), .pointer (aD bx)] [oI bx 25 (pC p k)] (fun v O' => v = vI ((prN p s + 1 : Nat) : Int) ∧ O' = [oI bx 25 (pC p k)]) := by
 refine CallT.enter func45 rfl ntmps45 rfl ?_
 have hs9 : s < p.prio.length := by rw [hv.pl]; exact hs
 have hp9 := hv.prLe s
 refine T.s (T.rg (TO.qa rfl (TO.nl (T.s (T.rg (TO.q (q_fa underlying25 rfl inf23 rfl rfl) (TO.q (q_lb 0 underlying23 rfl rfl rfl rfl) (TO.qm rfl (TO.q (q_ix (i := s) underlying23 inf3 rfl rfl (Sl.o h.prio) hs9 (by rw [List.length_map]; exact hs9)) ?_)))))))))
 refine TO.q (q_ld underlying3 rfl rfl (Sl.o h.prio) (by rw [ints, List.getElem?_map, hv.prAt hs]; rfl)) (TO.q (q_addN (a := (prN p s)) (b := 1) rfl rfl (by omega)) (TO.qa rfl ?_))
 refine TO.nl (T.ret ?_)
 refine Res.one (vI (((prN p s) + 1 : Nat) : Int)) Tryd.results45 rfl ?_
 exact ⟨rfl, rfl⟩
theorem parCo (w : World) [Tab Tryd.prog w] (p : Par) (k : DK) (h : AtP w p k) (hB : ParC p) :
  PureT Tryd.prog 18 [pV p k] w fun v N => ∃ k9 : DK, v = .tuple #[pV (coV p) k9, vI (coE p : Int)] ∧ N = [pI 23 3 (coV p) k9] := by
 refine CallT.enter func18 rfl ntmps18 rfl ?_
 have hBn := hB.n; have hBf := hB.f
 obtain ⟨M, hM⟩ : ∃ m, withP p (fun s => ((prN p s + 1 : Nat) : Int)) = m := ⟨_, rfl⟩
 refine T.s (T.rg (TO.l rfl (l_box (v := (pV p k)) (cs := (pC p k)) rfl rfl (fun bx1 => ?_))))
 refine TO.l rfl (l_alloc inf25 rfl (fun bx2 => ?_))
 refine TO.qa rfl (TO.nl (T.s (T.s (T.rg (TO.q (q_la 1 underlying25 rfl inf25 rfl rfl rfl) ?_)))))
 have hk6 := fun (w1 : World) (hI : Inv w [oI bx2 25 [(vI 0), (vI 0), nS, nS], oI bx1 25 (pC p k)] w1) => (haveI := Inv.tab (P := Tryd.prog) hI; parCheck w1 p k (hI.atQ h) hB)
 refine TO.l rfl (l_call ent20 (CallT.op hk6) rfl ?_)
 clear hk6
 rintro vr O' ⟨N, rfl, rfl, rfl⟩
 refine TO.qa rfl (TO.nl (T.s (T.rg (TO.qm rfl (TO.q (q_neq rfl rfl) (TO.nl (T.condP rfl (fun hc => ?_) (fun hc => ?_))))))))
 ·have hlt8 : checkP p ≠ 0 := by omega
  refine T.s ?_
  refine T.nilP 23 3 ?_
  refine T.rg (TO.q (q_build plan25 inf25 rfl) (TO.qm rfl (TO.l rfl (l_sb (v := (.agg #[(vI 0), (vI 0), nS, nS])) (vs := [(vI 0), (vI 0), nS, nS]) 1 inf25 rfl rfl rfl rfl rfl rfl (by simp [putL]) ?_))))
  refine TO.qa rfl (TO.nl (T.ret (Res.drop ?_)))
  refine Res.cell1b (vI (checkP p : Int)) (i := 1) Tryd.results18 underlying25 rfl inf25 rfl rfl rfl rfl ?_
  obtain ⟨e1, e2⟩ := coE_bad (by omega)
  rw [e1, e2]
  exact ⟨[pI 23 3 noP k00], (by exact Sub.k .z), k00, rfl, rfl⟩
 have hge8 : ¬ checkP p ≠ 0 := by omega
 have he0 : checkP p = 0 := by omega
 have hv : ValidP p := checkP_zero.1 he0
 refine T.skip (T.s (T.s (T.rg (TO.q (q_fa underlying25 rfl inf23 rfl rfl) (TO.q (q_lb 1 underlying23 rfl rfl rfl rfl) ?_)))))
 have hk13 := fun (w1 : World) (hI : Inv w [oI bx2 25 [(vI 0), (vI 0), nS, nS], oI bx1 25 (pC p k)] w1) => (haveI := Inv.tab (P := Tryd.prog) hI; slicesMax w1 k.fb k.fc p.prio (hI.sl h.prio) (by rw [hv.pl]; exact hv.val.n0) (by omega))
 refine TO.l rfl (l_call ent41 (CallT.op hk13) rfl ?_)
 clear hk13
 rintro vr O' ⟨N, rfl, ⟨m1, rfl, hm1, hall1⟩, rfl⟩
 refine TO.q (q_eql rfl rfl) (TO.nl (T.condP (p := m1 = 16) rfl (fun hc => ?_) (fun hc => ?_)))
 ·have h16 : (16 : Int) ∈ p.prio := hc ▸ hm1
  refine T.s ?_
  refine T.nilP 23 3 ?_
  refine T.rg (TO.q (q_build plan25 inf25 rfl) (TO.l rfl (l_sb (v := (.agg #[(vI 0), (vI 0), nS, nS])) (vs := [(vI 0), (vI 0), nS, nS]) 1 inf25 rfl rfl rfl rfl rfl rfl (by simp [putL]) ?_)))
  refine TO.qa rfl (TO.nl (T.ret (Res.drop ?_)))
  refine Res.cell1b (vI 4) (i := 1) Tryd.results18 underlying25 rfl inf25 rfl rfl rfl rfl ?_
  obtain ⟨e1, e2⟩ := coE_long he0 h16
  rw [e1, e2]
  exact ⟨[pI 23 3 noP k00], (by exact Sub.k .z), k00, rfl, rfl⟩
 have h16 : (16 : Int) ∉ p.prio := fun g => hc (by have := hall1 _ g; have := (hv.pr _ hm1).2; omega)
 refine T.skip (T.s (T.rg (TO.q (q_la 1 underlying25 rfl inf25 rfl rfl rfl) (TO.q (q_makeFunc) ?_))))
 have hk18 := CallT.under (A := [oI bx1 25 (pC p k)]) (B := [oI bx2 25 [(vI 0), (vI 0), nS, nS]]) (O := [oI bx2 25 [(vI 0), (vI 0), nS, nS], oI bx1 25 (pC p k)]) (show CallT _ _ _ _ _ _ from by
   have h9 := withK w p k h hv [oI bx1 25 (pC p k)] (.func (.func 45) #[] #[.pointer (aD bx1)]) (fun s => ((prN p s + 1 : Nat) : Int)) (fun s hs => CallV.of_fn (first := []) (args := [vI ((s : Nat) : Int)]) (caps := [.pointer (aD bx1)]) ent45 (coF w p k h hv bx1 s hs))
   rw [hM] at h9
   exact h9) (by exact Sub.pull [oI bx2 25 [(vI 0), (vI 0), nS, nS]] _ (.k .z))
 refine TO.l rfl (l_call ent44 hk18 rfl ?_)
 clear hk18
 rintro vr O' ⟨A1, rfl, k1, rfl, rfl⟩
 refine TO.l rfl (l_sb (v := (pV M k1)) (vs := (pC M k1)) 2 inf25 rfl rfl rfl rfl rfl rfl (by simp [putL]) ?_)
 refine TO.qa rfl (TO.nl (T.ret (Res.drop ?_)))
 refine Res.cell1b (vI 0) (i := 2) Tryd.results18 underlying25 rfl inf25 rfl rfl rfl rfl ?_
 obtain ⟨e1, e2⟩ := coE_ok he0 h16
 rw [e1, e2, hM]
 exact ⟨[pI 23 3 M k1], (by exact Sub.k .z), k1, rfl, rfl⟩
theorem Sub.head {a : Lx.Item} {L : List Lx.Item} : Sub [a] (a :: L) := ⟨_, List.Perm.refl _, (List.nil_sublist L).cons_cons a⟩
end Go.Proofs.YtnikhiohindggaaDoor


namespace Go.Proofs.YtnikhiohindggaaDoor
open Go.Lx Go.RowKit _root_.Go.Proofs.Tryd
theorem longPF (w : World) [Tab Tryd.prog w] (b : Option Addr) (c : Nat) (qs : List (Par × DK)) (hS : Sl w b (parsC qs)) (hq : ∀ q ∈ qs, AtP w q.1 q.2) (hb : qs.length < 1000000) (hb2 : ∀ q ∈ qs, ParC q.1) :
  PureT Tryd.prog 10 [.slice b qs.length c] w fun v N => v = .bool (qs.any fun q => longP q.1) ∧ N = [] := by
 refine CallT.enter func10 rfl ntmps10 rfl ?_
 refine T.s (T.rg (TO.qa rfl (TO.nl (T.s (T.s (T.rg (TO.qa rfl (TO.nl (T.block ?_)))))))))
 refine T.loop (fun (i : Nat) ρ O => O = [] ∧ i ≤ qs.length ∧ (qs.take i).any (fun q => longP q.1) = false ∧ Heads [(0, (.slice b qs.length c)), (3, vI ((i : Nat) : Int))] ρ) (fun i => qs.length - i) 0 ?_ ?_
 ·exact ⟨rfl, Nat.zero_le _, rfl, ⟨rfl, rfl, trivial⟩⟩
 rintro i ρ O ⟨rfl, hi, hany, hH⟩
 obtain ⟨ρ0, rfl⟩ := hH.elim
 clear hH
 refine T.s (T.s (T.rg (TO.qm rfl (TO.qm rfl (TO.q (q_len underlying59 rfl) (TO.q (q_lss rfl rfl) (TO.nl (T.condP rfl (fun hc => ?_) (fun hc => ?_)))))))))
 ·have hlt8 : i < qs.length := by omega
  have hlti : i < qs.length := by omega
  have hbb := hb2 _ (List.getElem_mem hlti)
  have hbn := hbb.n
  have hbf := hbb.f
  have hvl := (hq _ (List.getElem_mem hlti)).rows.1
  refine T.skip (T.s (T.block (T.s (T.s (T.rg (TO.qm rfl (TO.qm rfl (TO.q (q_ixK (i := i) underlying59 inf25 rfl rfl (Sl.o hS) (by first | assumption | omega | (simp; omega) | simp_all) (by first | (rw [pars_len]; omega) | (simp [pars_len]; omega) | (simp_all [pars_len]; omega))) (TO.q (q_fieldEl underlying25 rfl inf22 rfl rfl (Sl.o hS) (by first | (rw [pars_len]; omega) | (simp [pars_len]; omega) | (simp_all [pars_len]; omega))) (TO.q (q_ld underlying22 rfl rfl (Sl.o hS) (pars_get (by first | assumption | omega | (simp; omega) | simp_all) 2 (by decide))) (TO.q (q_len underlying22 rfl) ?_)))))))))))
  by_cases h17 : (12 : Int) < ((qs[i].1.next.length : Nat) : Int)
  ·refine TO.q (QT.toB (q_gtr rfl rfl) (decide_eq_true h17)) ?_
   refine TO.qm rfl (TO.pd rfl rfl (TO.pd rfl rfl (TO.pd rfl rfl (TO.pd rfl rfl (TO.pd rfl rfl (TO.pd rfl rfl (TO.pd rfl rfl ?_)))))))
   refine TO.q (q_pick1 rfl rfl) (TO.nl ?_)
   refine T.cond1 rfl ?_
   refine T.s (T.rg (TO.qa rfl (TO.nl (T.ret (Res.drop ?_)))))
   refine Res.one (.bool true) Tryd.results10 rfl ?_
   exact ⟨[], Sub.z, congrArg Value.bool ((anyK_hit hlti (show longP _ = true by unfold longP; rw [show longN qs[i].1 = true from decide_eq_true (by omega)]; rfl)).symm), rfl⟩
  refine TO.q (QT.toB (q_gtr rfl rfl) (decide_eq_false h17)) (TO.qm rfl (TO.gq rfl rfl (q_move rfl) (TO.gq rfl rfl (q_move rfl) (TO.gq rfl rfl (q_ixK (i := i) underlying59 inf25 rfl rfl (Sl.o hS) (by first | assumption | omega | (simp; omega) | simp_all) (by first | (rw [pars_len]; omega) | (simp [pars_len]; omega) | (simp_all [pars_len]; omega))) (TO.gq rfl rfl (q_fieldEl underlying25 rfl inf23 rfl rfl (Sl.o hS) (by first | (rw [pars_len]; omega) | (simp [pars_len]; omega) | (simp_all [pars_len]; omega))) (TO.gq rfl rfl (q_ld underlying23 rfl rfl (Sl.o hS) (pars_get (by first | assumption | omega | (simp; omega) | simp_all) 3 (by decide))) (TO.gq rfl rfl (q_len underlying23 rfl) ?_)))))))
  by_cases h25 : (14 : Int) < ((qs[i].1.prio.length : Nat) : Int)
  ·refine TO.gq rfl rfl (QT.toB (q_gtr rfl rfl) (decide_eq_true h25)) ?_
   refine TO.q (q_pick0 rfl rfl) (TO.nl ?_)
   refine T.cond1 rfl ?_
   refine T.s (T.rg (TO.qa rfl (TO.nl (T.ret (Res.drop ?_)))))
   refine Res.one (.bool true) Tryd.results10 rfl ?_
   exact ⟨[], Sub.z, congrArg Value.bool ((anyK_hit hlti (show longP _ = true by unfold longP; rw [show longN qs[i].1 = true from decide_eq_true (by omega)]; rfl)).symm), rfl⟩
  refine TO.gq rfl rfl (QT.toB (q_gtr rfl rfl) (decide_eq_false h25)) (TO.q (q_pick0 rfl rfl) (TO.nl (T.cond0 rfl (T.skip (T.s (T.rg (TO.qa rfl (TO.nl (T.block ?_)))))))))
  refine T.loop (fun (j : Nat) ρ O => O = [] ∧ j ≤ qs[i].1.next.length ∧ longN qs[i].1 = false ∧ (qs[i].1.next.take j).any (fun r => decide (66 < r.length)) = false ∧ Heads [(0, (.slice b qs.length c)), (3, vI ((i : Nat) : Int)), (4, vI ((j : Nat) : Int))] ρ) (fun j => qs[i].1.next.length - j) 0 ?_ ?_
  ·refine ⟨rfl, Nat.zero_le _, decide_eq_false (by omega), rfl, ⟨rfl, rfl, rfl, trivial⟩⟩
  rintro j ρ O ⟨rfl, hj, hnl, hj2, hH⟩
  obtain ⟨ρ0, rfl⟩ := hH.elim
  clear hH
  refine T.s (T.s (T.rg (TO.qm rfl (TO.qm rfl (TO.qm rfl (TO.q (q_ixK (i := i) underlying59 inf25 rfl rfl (Sl.o hS) (by first | assumption | omega | (simp; omega) | simp_all) (by first | (rw [pars_len]; omega) | (simp [pars_len]; omega) | (simp_all [pars_len]; omega))) (TO.q (q_fieldEl underlying25 rfl inf22 rfl rfl (Sl.o hS) (by first | (rw [pars_len]; omega) | (simp [pars_len]; omega) | (simp_all [pars_len]; omega))) (TO.q (q_ld underlying22 rfl rfl (Sl.o hS) (pars_get (by first | assumption | omega | (simp; omega) | simp_all) 2 (by decide))) (TO.q (q_len underlying22 rfl) (TO.q (q_lss rfl rfl) (TO.nl (T.condP rfl (fun hc => ?_) (fun hc => ?_)))))))))))))
  ·have hlt34 : j < qs[i].1.next.length := by omega
   have hltj : j < qs[i].1.next.length := by omega
   obtain ⟨vb, vc, g1, s1⟩ := (hq _ (List.getElem_mem hlti)).rows.get hltj
   have hbr := hbb.r _ (List.getElem_mem hltj)
   refine T.skip (T.s (T.block (T.s (T.rg (TO.qm rfl (TO.qm rfl (TO.q (q_ixK (i := i) underlying59 inf25 rfl rfl (Sl.o hS) (by first | assumption | omega | (simp; omega) | simp_all) (by first | (rw [pars_len]; omega) | (simp [pars_len]; omega) | (simp_all [pars_len]; omega))) (TO.q (q_fieldEl underlying25 rfl inf22 rfl rfl (Sl.o hS) (by first | (rw [pars_len]; omega) | (simp [pars_len]; omega) | (simp_all [pars_len]; omega))) (TO.q (q_ld underlying22 rfl rfl (Sl.o hS) (pars_get (by first | assumption | omega | (simp; omega) | simp_all) 2 (by decide))) (TO.qm rfl (TO.q (q_ix (i := j) underlying22 inf23 rfl rfl (Sl.o (hq _ (List.getElem_mem hlti)).outer) hltj (by rw [hvl]; exact hltj)) (TO.q (q_ld underlying23 rfl rfl (Sl.o (hq _ (List.getElem_mem hlti)).outer) g1) (TO.q (q_len underlying23 rfl) (TO.q (q_gtr rfl rfl) (TO.nl (T.condP rfl (fun hc => ?_) (fun hc => ?_)))))))))))))))))
   ·have hlt46 : qs[i].1.next[j].length > 66 := by omega
    refine T.s (T.rg (TO.qa rfl (TO.nl (T.ret (Res.drop ?_)))))
    refine Res.one (.bool true) Tryd.results10 rfl ?_
    exact ⟨[], Sub.z, congrArg Value.bool ((anyK_hit hlti (show longP _ = true by unfold longP; rw [anyK_hit hltj (decide_eq_true (by omega))]; simp)).symm), rfl⟩
   have hge46 : ¬ qs[i].1.next[j].length > 66 := by omega
   refine T.skip (T.rg (TO.qm rfl (TO.q (q_addN (a := j) (b := 1) rfl rfl (by omega)) (TO.qa rfl (TO.nl ?_)))))
   exact ⟨j + 1, by omega, rfl, by omega, hnl, anyK_snoc hltj hj2 (decide_eq_false (by omega)), ⟨rfl, rfl, rfl, trivial⟩⟩
  have hge34 : ¬ j < qs[i].1.next.length := by omega
  refine T.exit ?_
  refine T.rg (TO.qm rfl (TO.q (q_addN (a := i) (b := 1) rfl rfl (by omega)) (TO.qa rfl (TO.nl ?_))))
  refine ⟨i + 1, by omega, rfl, by omega, anyK_snoc hlti hany ?_, ⟨rfl, rfl, trivial⟩⟩
  show longP _ = false
  unfold longP; rw [hnl, anyK_done (by omega) hj2]; rfl
 have hge8 : ¬ i < qs.length := by omega
 refine T.exit ?_
 refine T.s (T.rg (TO.qa rfl (TO.nl (T.ret (Res.drop ?_)))))
 refine Res.one (.bool false) Tryd.results10 rfl ?_
 exact ⟨[], Sub.z, congrArg Value.bool ((anyK_done (by omega) hany).symm), rfl⟩
theorem accT (w : World) [Tab Tryd.prog w] (p : Par) (k : DK) (h : AtP w p k) (hB : ParC p) (l : La) (kl : LK) (hl : AtL w l kl) (hL : LaB l) (hb : acB p l = true) :
  PureT Tryd.prog 33 [pV p k, lV l kl] w fun v N => v = .bool true ∧ N = [] := by
 refine CallT.enter func33 rfl ntmps33 rfl ?_
 refine T.s (T.rg (TO.l rfl (l_box (v := (pV p k)) (cs := (pC p k)) rfl rfl (fun bx1 => ?_))))
 refine TO.l rfl (l_box (v := (lV l kl)) (cs := (lC l kl)) rfl rfl (fun bx2 => ?_))
 refine TO.qa rfl (TO.nl (T.s (T.rg (TO.q (q_la 1 underlying25 rfl inf25 rfl rfl rfl) (TO.q (q_la 0 underlying28 rfl inf28 rfl rfl rfl) ?_)))))
 have hk10 := fun (w1 : World) (hI : Inv w [oI bx2 28 (lC l kl), oI bx1 25 (pC p k)] w1) => (haveI := Inv.tab (P := Tryd.prog) hI; (show PureT _ _ _ _ _ from by
   have h9 := parAcc w1 p k (hI.atQ h) hB l kl (hI.la hl) hL
   rw [hb, show ruE p l = 0 from (of_decide_eq_true hb).1] at h9
   exact h9))
 refine TO.l rfl (l_call ent17 (CallT.op hk10) rfl ?_)
 clear hk10
 rintro vr O' ⟨N, rfl, rfl, rfl⟩
 refine TO.qm rfl (TO.q (q_extract (vs := _) rfl rfl) (TO.q (q_extract (vs := _) rfl rfl) (TO.qa rfl (TO.qa rfl (TO.nl (T.s (T.rg (TO.qm rfl (TO.qm rfl (TO.gq rfl rfl (q_move rfl) (TO.gq rfl rfl (q_eql rfl rfl) (TO.q (q_pick1 rfl rfl) (TO.qa rfl (TO.nl (T.ret (Res.drop ?_))))))))))))))))
 refine Res.one (.bool (decide (0 = 0))) Tryd.results33 rfl ?_
 exact ⟨[], Sub.z, rfl, rfl⟩
theorem accF (w : World) [Tab Tryd.prog w] (p : Par) (k : DK) (h : AtP w p k) (hB : ParC p) (l : La) (kl : LK) (hl : AtL w l kl) (hL : LaB l) (hb : acB p l = false) :
  PureT Tryd.prog 33 [pV p k, lV l kl] w fun v N => v = .bool false ∧ N = [] := by
 refine CallT.enter func33 rfl ntmps33 rfl ?_
 refine T.s (T.rg (TO.l rfl (l_box (v := (pV p k)) (cs := (pC p k)) rfl rfl (fun bx1 => ?_))))
 refine TO.l rfl (l_box (v := (lV l kl)) (cs := (lC l kl)) rfl rfl (fun bx2 => ?_))
 refine TO.qa rfl (TO.nl (T.s (T.rg (TO.q (q_la 1 underlying25 rfl inf25 rfl rfl rfl) (TO.q (q_la 0 underlying28 rfl inf28 rfl rfl rfl) ?_)))))
 have hk10 := fun (w1 : World) (hI : Inv w [oI bx2 28 (lC l kl), oI bx1 25 (pC p k)] w1) => (haveI := Inv.tab (P := Tryd.prog) hI; (show PureT _ _ _ _ _ from by
   have h9 := parAcc w1 p k (hI.atQ h) hB l kl (hI.la hl) hL
   rw [hb] at h9
   exact h9))
 refine TO.l rfl (l_call ent17 (CallT.op hk10) rfl ?_)
 clear hk10
 rintro vr O' ⟨N, rfl, rfl, rfl⟩
 refine TO.qm rfl (TO.q (q_extract (vs := _) rfl rfl) (TO.q (q_extract (vs := _) rfl rfl) (TO.qa rfl (TO.qa rfl (TO.nl (T.s (T.rg (TO.qm rfl (TO.qm rfl (TO.pd rfl rfl (TO.pd rfl rfl (TO.q (q_pick0 rfl rfl) (TO.qa rfl (TO.nl (T.ret (Res.drop ?_))))))))))))))))
 refine Res.one (.bool false) Tryd.results33 rfl ?_
 exact ⟨[], Sub.z, rfl, rfl⟩
theorem accC (w : World) [Tab Tryd.prog w] (p : Par) (k : DK) (h : AtP w p k) (hB : ParC p) (l : La) (kl : LK) (hl : AtL w l kl) (hL : LaB l) :
  PureT Tryd.prog 33 [pV p k, lV l kl] w fun v N => v = .bool (acB p l) ∧ N = [] := by
 cases hb : acB p l
 ·exact accF w p k h hB l kl hl hL hb
 ·exact accT w p k h hB l kl hl hL hb
end Go.Proofs.YtnikhiohindggaaDoor


namespace Go.Proofs
open Go.Shelf
def Tryd.laysM171_ren : Go.Shelf.Ren := ⟨fun | 171 => 82 | 243 => 96 | 246 => 104 | 283 => 106 | 284 => 107 | 285 => 108 | 286 => 109 | 129 => 111 | 317 => 110 | 318 => 112 | 319 => 113 | 320 => 114 | 337 => 115 | 338 => 116 | n => n, fun | 3 => 3 | 9 => 9 | 2 => 2 | 4 => 4 | 171 => 131 | 0 => 0 | 53 => 132 | 37 => 26 | 5 => 5 | 173 => 135 | 212 => 138 | 51 => 139 | 20 => 20 | 213 => 140 | 46 => 70 | 232 => 143 | 233 => 144 | n => n, fun | 17 => 0 | 18 => 1 | 19 => 2 | n => n⟩
theorem Tryd.laysM171 : Go.Proofs.LaysM.n171 Tryd.prog Tryd.laysM171_ren := {
 mixed := by kernel_rfl
 f129 := Tryd.func111.trans (congrArg some (by kernel_rfl))
 f171 := Tryd.func82.trans (congrArg some (by kernel_rfl))
 f243 := Tryd.func96.trans (congrArg some (by kernel_rfl))
 f246 := Tryd.func104.trans (congrArg some (by kernel_rfl))
 f283 := Tryd.func106.trans (congrArg some (by kernel_rfl))
 f284 := Tryd.func107.trans (congrArg some (by kernel_rfl))
 f285 := Tryd.func108.trans (congrArg some (by kernel_rfl))
 f286 := Tryd.func109.trans (congrArg some (by kernel_rfl))
 f317 := Tryd.func110.trans (congrArg some (by kernel_rfl))
 f318 := Tryd.func112.trans (congrArg some (by kernel_rfl))
 f319 := Tryd.func113.trans (congrArg some (by kernel_rfl))
 f320 := Tryd.func114.trans (congrArg some (by kernel_rfl))
 f337 := Tryd.func115.trans (congrArg some (by kernel_rfl))
 f338 := Tryd.func116.trans (congrArg some (by kernel_rfl))
 t0 := Tryd.underlying0
 a0 := Tryd.isAgg0
 z0 := Tryd.sizeOf0
 v0 := Tryd.zeroValue0
 t2 := Tryd.underlying2
 a2 := Tryd.isAgg2
 z2 := Tryd.sizeOf2
 v2 := Tryd.zeroValue2
 t3 := Tryd.underlying3
 a3 := Tryd.isAgg3
 z3 := Tryd.sizeOf3
 v3 := Tryd.zeroValue3
 t4 := Tryd.underlying4
 a4 := Tryd.isAgg4
 z4 := Tryd.sizeOf4
 v4 := Tryd.zeroValue4
 t5 := Tryd.underlying5
 a5 := Tryd.isAgg5
 z5 := Tryd.sizeOf5
 v5 := Tryd.zeroValue5
 t9 := Tryd.underlying9
 a9 := Tryd.isAgg9
 z9 := Tryd.sizeOf9
 v9 := Tryd.zeroValue9
 t20 := Tryd.underlying20
 a20 := Tryd.isAgg20
 z20 := Tryd.sizeOf20
 v20 := Tryd.zeroValue20
 t37 := Tryd.underlying26
 a37 := Tryd.isAgg26
 z37 := Tryd.sizeOf26
 v37 := Tryd.zeroValue26
 t46 := Tryd.underlying70
 a46 := Tryd.isAgg70
 z46 := Tryd.sizeOf70
 v46 := Tryd.zeroValue70
 t51 := Tryd.underlying139
 a51 := Tryd.isAgg139
 z51 := Tryd.sizeOf139
 v51 := Tryd.zeroValue139
 t53 := Tryd.underlying132
 a53 := Tryd.isAgg132
 z53 := Tryd.sizeOf132
 v53 := Tryd.zeroValue132
 t171 := Tryd.underlying131
 a171 := Tryd.isAgg131
 z171 := Tryd.sizeOf131
 v171 := Tryd.zeroValue131
 t173 := Tryd.underlying135
 a173 := Tryd.isAgg135
 z173 := Tryd.sizeOf135
 v173 := Tryd.zeroValue135
 t212 := Tryd.underlying138
 a212 := Tryd.isAgg138
 z212 := Tryd.sizeOf138
 v212 := Tryd.zeroValue138
 t213 := Tryd.underlying140
 a213 := Tryd.isAgg140
 z213 := Tryd.sizeOf140
 t232 := Tryd.underlying143
 a232 := Tryd.isAgg143
 z232 := Tryd.sizeOf143
 v232 := Tryd.zeroValue143
 t233 := Tryd.underlying144
 a233 := Tryd.isAgg144
 z233 := Tryd.sizeOf144
 v233 := Tryd.zeroValue144
 g17 := by kernel_rfl
 g18 := by kernel_rfl
 g19 := by kernel_rfl
 i0 := by kernel_rfl
 i2 := by kernel_rfl
 i3 := by kernel_rfl
 i4 := by kernel_rfl
 i5 := by kernel_rfl
 i9 := by kernel_rfl
 i20 := by kernel_rfl
 i37 := by kernel_rfl
 i46 := by kernel_rfl
 i51 := by kernel_rfl
 i53 := by kernel_rfl
 i171 := by kernel_rfl
 i173 := by kernel_rfl
 i212 := by kernel_rfl
 i232 := by kernel_rfl
 i233 := by kernel_rfl
 m17 := by kernel_rfl
 m18 := by kernel_rfl
 m19 := by kernel_rfl }
open Go.RowKit Go.Sort Go.Lib in
theorem Tryd.strconv_Itoa (n : Int) (h0 : -9223372036854775808 ≤ n) (h1 : n ≤ 9223372036854775807) (w : World) (htab : Lib.TabIs Tryd.prog w "internal/strconv.uint64pow10" .u64 Lib.pow10Tab) :
  Calls Tryd.prog 82 #[.int .i64 n] w fun e w' => e = .returned (.string ⟨(Lib.itoa n).toArray⟩) ∧ ∃ k os, w' = grow (w.drewN k) os := Any.strconv_Itoa Tryd.laysM171 n h0 h1 w htab
end Go.Proofs


namespace Go.Proofs.YtnikhiohindggaaDoor
open Go.Lx Go.RowKit _root_.Go.Proofs.Tryd
theorem itoaF (w : World) [Tab Tryd.prog w] (n : Nat) (hn : n < 1000000000000) : PureT Tryd.prog 82 [.int .i64 (n : Int)] w fun v N => v = str (Lib.decDigits n) ∧ N = [] := fun w1 M hI =>
 (Go.Proofs.Tryd.strconv_Itoa n (by omega) (by omega) w1 (Tab.is (hI.tab (P := Tryd.prog)))).mono (by rintro e w' ⟨rfl, k, os, rfl⟩; exact ⟨_, [], rfl, hI.grow k os, by rw [Lib.itoa_nonneg]; rfl, rfl⟩)
theorem tbz {w w1 : World} {O : List Lx.Item} [Tab Tryd.prog w] (h : Inv w O w1) : Tab Tryd.prog w1 := Inv.tab (P := Tryd.prog) h
abbrev uT3 := @underlying3
abbrev uT4 := @underlying4
abbrev uT9 := @underlying9
abbrev uT22 := @underlying22
abbrev uT23 := @underlying23
abbrev uT25 := @underlying25
abbrev uT26 := @underlying26
abbrev uT28 := @underlying28
abbrev uT59 := @underlying59
abbrev uT62 := @underlying62
abbrev uT70 := @underlying70
abbrev uT81 := @underlying81
abbrev uT83 := @underlying83
abbrev uT86 := @underlying86
abbrev uT87 := @underlying87
abbrev uT105 := @underlying105
abbrev uT107 := @underlying107
abbrev uT118 := @underlying118
abbrev uT126 := @underlying126
end Go.Proofs.YtnikhiohindggaaDoor


namespace Go.Lx
def txtL (l : List Nat) : List UInt8 := l.flatMap fun n => Lib.decDigits n ++ [32]
theorem txtL_snoc (l : List Nat) (n : Nat) : txtL (l ++ [n]) = txtL l ++ (Lib.decDigits n ++ [32]) := by simp [txtL]
theorem txtL_tail : ∀ l, 32 :: txtL l = tailK l ++ [32]
 | [] => rfl
 | n :: l => by
  have ih := txtL_tail l
  have e : txtL (n :: l) = Lib.decDigits n ++ (32 :: txtL l) := by simp [txtL]
  rw [e, ih]; simp [tailK]
theorem txtL_inj {l m : List Nat} (h : txtL l = txtL m) : l = m := tailK_inj (List.append_cancel_right (by rw [← txtL_tail l, ← txtL_tail m, h]))
theorem txtL_len : ∀ {l : List Nat}, (∀ x ∈ l, x < 10000) → (txtL l).length ≤ 5 * l.length
 | [], _ => Nat.zero_le _
 | a :: l, h => by
  have h1 := dec_len 3 a (by have := h a (by simp); omega)
  have h2 := txtL_len (l := l) (fun x hx => h x (by simp [hx]))
  have e : txtL (a :: l) = (Lib.decDigits a ++ [32]) ++ txtL l := by simp [txtL]
  rw [e, List.length_append, List.length_append, List.length_singleton, List.length_cons]
  omega
abbrev KeyQ := Int × List UInt8
def rowQ (p : Par) (cs : List Nat) (s : Nat) : List Nat := (List.range (letN p.d)).map fun x => cs.getD (toN p.d s x) 0
def keyQ (p : Par) (cs : List Nat) (s : Nat) : KeyQ := (((cs.getD s 0 : Nat) : Int), txtL (rowQ p cs s))
def keysQ (p : Par) (cs : List Nat) : List KeyQ := (List.range p.next.length).map (keyQ p cs)
def refQ (p : Par) (cs : List Nat) : List Nat := (keysQ p cs).map fun k => ix k (dd (keysQ p cs))
def clsQ (p : Par) : Nat → List Nat
 | 0 => (List.range p.next.length).map (prN p)
 | k + 1 => refQ p (clsQ p k)
def numQ (p : Par) (k : Nat) : Nat := (dd (keysQ p (clsQ p k))).length
def cntQ (p : Par) : Nat → Nat
 | 0 => 0
 | k + 1 => numQ p k
theorem keysQ_len (p : Par) (cs : List Nat) : (keysQ p cs).length = p.next.length := by simp [keysQ]
theorem refQ_len (p : Par) (cs : List Nat) : (refQ p cs).length = p.next.length := by simp [refQ, keysQ]
theorem clsQ_len (p : Par) : ∀ k, (clsQ p k).length = p.next.length
 | 0 => by simp [clsQ]
 | k + 1 => refQ_len p _
theorem keysQ_take {p : Par} {cs : List Nat} {s : Nat} (hs : s < p.next.length) : (keysQ p cs).take (s + 1) = (keysQ p cs).take s ++ [keyQ p cs s] := by
 have hl : s < (keysQ p cs).length := by rw [keysQ_len]; exact hs
 rw [List.take_succ_eq_append_getElem hl]; simp [keysQ]
theorem keysQ_mem {p : Par} {cs : List Nat} {s : Nat} (hs : s < p.next.length) : keyQ p cs s ∈ keysQ p cs := List.mem_map.2 ⟨s, List.mem_range.2 hs, rfl⟩
theorem keysQ_memT {p : Par} {cs : List Nat} {j s : Nat} (hj : j < s) (hs : s ≤ p.next.length) : keyQ p cs j ∈ (keysQ p cs).take s := by
 rw [keysQ, ← List.map_take, List.take_range]
 exact List.mem_map.2 ⟨j, List.mem_range.2 (by omega), rfl⟩
theorem refQ_get {p : Par} {cs : List Nat} {s : Nat} (hs : s < p.next.length) : (refQ p cs).getD s 0 = ix (keyQ p cs s) (dd (keysQ p cs)) := by
 unfold refQ keysQ
 rw [List.getD_eq_getElem?_getD, List.getElem?_map, List.getElem?_map, List.getElem?_range hs]; rfl
theorem refQ_eq {p : Par} {cs : List Nat} {s t : Nat} (hs : s < p.next.length) (ht : t < p.next.length) : (refQ p cs).getD s 0 = (refQ p cs).getD t 0 ↔ keyQ p cs s = keyQ p cs t := by
 rw [refQ_get hs, refQ_get ht]
 exact ⟨fun h => ix_inj (mem_dd.2 (keysQ_mem hs)) (mem_dd.2 (keysQ_mem ht)) h, fun h => by rw [h]⟩
theorem keyQ_eq {p : Par} {cs : List Nat} {s t : Nat} : keyQ p cs s = keyQ p cs t ↔ cs.getD s 0 = cs.getD t 0 ∧ ∀ x, x < letN p.d → cs.getD (toN p.d s x) 0 = cs.getD (toN p.d t x) 0 := by
 unfold keyQ rowQ
 rw [Prod.mk.injEq]
 constructor
 ·rintro ⟨h1, h2⟩
  refine ⟨by omega, fun x hx => ?_⟩
  have h3 := congrArg (fun l => l[x]?) (txtL_inj h2)
  simp only [List.getElem?_map, List.getElem?_range hx, Option.map_some, Option.some.injEq] at h3
  exact h3
 ·rintro ⟨h1, h2⟩
  refine ⟨by rw [h1], congrArg txtL (List.map_congr_left fun x hx => h2 x (List.mem_range.1 hx))⟩
theorem clsQ_bis {p : Par} (hp : ValidP p) : ∀ k s t, s < p.next.length → t < p.next.length → ((clsQ p k).getD s 0 = (clsQ p k).getD t 0 ↔ bisN p p k s t)
 | 0, s, t, hs, ht => by
  have e : ∀ s, s < p.next.length → (clsQ p 0).getD s 0 = prN p s := fun s hs => by
   unfold clsQ
   rw [List.getD_eq_getElem?_getD, List.getElem?_map, List.getElem?_range hs]; rfl
  rw [e s hs, e t ht]; exact Iff.rfl
 | k + 1, s, t, hs, ht => by
  show (refQ p (clsQ p k)).getD s 0 = (refQ p (clsQ p k)).getD t 0 ↔ bisN p p k s t ∧ ∀ x, x < letN p.d → bisN p p k (toN p.d s x) (toN p.d t x)
  rw [refQ_eq hs ht, keyQ_eq, clsQ_bis hp k s t hs ht]
  refine and_congr Iff.rfl (forall_congr' fun x => imp_congr_right fun hx => ?_)
  exact clsQ_bis hp k _ _ (hp.val.toN_lt hs hx).1 (hp.val.toN_lt ht hx).1
section
variable {α β : Type} [DecidableEq α] [DecidableEq β]
def newB (f : Nat → α) (j : Nat) : Bool := (List.range j).all fun i => decide (f i ≠ f j)
theorem newB_iff {f : Nat → α} {j : Nat} : newB f j = true ↔ ∀ i, i < j → f i ≠ f j := by
 unfold newB; simp
theorem dd_new (f : Nat → α) : ∀ n, (dd ((List.range n).map f)).length = ((List.range n).filter (newB f)).length
 | 0 => rfl
 | n + 1 => by
  rw [List.range_succ, List.map_append, List.map_singleton, dd_snoc, List.filter_append, List.length_append, ← dd_new f n]
  unfold add
  by_cases h : f n ∈ dd ((List.range n).map f)
  ·rw [if_pos h]
   have hm := mem_dd.1 h
   obtain ⟨i, hi, e⟩ := List.mem_map.1 hm
   have hb : newB f n = false := Bool.eq_false_iff.2 fun g => newB_iff.1 g i (List.mem_range.1 hi) e
   simp [hb]
  ·rw [if_neg h]
   have hb : newB f n = true := newB_iff.2 fun i hi e => h (mem_dd.2 (List.mem_map.2 ⟨i, List.mem_range.2 hi, e⟩))
   simp [hb]
theorem filter_le {p q : Nat → Bool} : ∀ (l : List Nat), (∀ x ∈ l, p x = true → q x = true) → (l.filter p).length ≤ (l.filter q).length ∧ ((l.filter p).length = (l.filter q).length → ∀ x ∈ l, q x = true → p x = true)
 | [], _ => ⟨Nat.le_refl _, fun _ x hx => by cases hx⟩
 | a :: l, h => by
  obtain ⟨h1, h2⟩ := filter_le (p := p) (q := q) l fun x hx => h x (List.mem_cons_of_mem _ hx)
  have ha := h a List.mem_cons_self
  cases hp : p a with
  | true =>
   have hq := ha hp
   simp only [List.filter_cons, hp, hq, if_true, List.length_cons]
   refine ⟨by omega, fun e x hx hqx => ?_⟩
   rcases List.mem_cons.1 hx with rfl | hx
   ·exact hp
   ·exact h2 (by omega) x hx hqx
  | false =>
   cases hq : q a with
   | true =>
    simp only [List.filter_cons, hp, hq, if_true, List.length_cons, Bool.false_eq_true, if_false]
    exact ⟨by omega, fun e => by omega⟩
   | false =>
    simp only [List.filter_cons, hp, hq, Bool.false_eq_true, if_false]
    refine ⟨h1, fun e x hx hqx => ?_⟩
    rcases List.mem_cons.1 hx with rfl | hx
    ·rw [hq] at hqx; cases hqx
    ·exact h2 e x hx hqx
theorem first_of (f : Nat → α) : ∀ s, ∃ r, r ≤ s ∧ f r = f s ∧ newB f r = true := by
 intro s
 induction s using Nat.strongRecOn with
 | _ s ih =>
  by_cases h : newB f s = true
  ·exact ⟨s, Nat.le_refl _, rfl, h⟩
  ·have : ∃ i, i < s ∧ f i = f s := Classical.byContradiction fun hno => h (newB_iff.2 fun i hi e => hno ⟨i, hi, e⟩)
   obtain ⟨i, hi, e⟩ := this
   obtain ⟨r, h1, h2, h3⟩ := ih i hi
   exact ⟨r, by omega, h2.trans e, h3⟩
theorem first_one {f : Nat → α} {r t : Nat} (hr : newB f r = true) (ht : newB f t = true) (e : f r = f t) : r = t := by
 rcases Nat.lt_trichotomy r t with h | h | h
 ·exact absurd e (newB_iff.1 ht r h)
 ·exact h
 ·exact absurd e.symm (newB_iff.1 hr t h)
theorem dd_stop {f : Nat → α} {g : Nat → β} {n : Nat} (h : ∀ s t, s < n → t < n → g s = g t → f s = f t) : (dd ((List.range n).map f)).length ≤ (dd ((List.range n).map g)).length ∧ ((dd ((List.range n).map f)).length = (dd ((List.range n).map g)).length → ∀ s t, s < n → t < n → f s = f t → g s = g t) := by
 rw [dd_new, dd_new]
 obtain ⟨h1, h2⟩ := filter_le (p := newB f) (q := newB g) (List.range n) fun x hx hb => newB_iff.2 fun i hi e => newB_iff.1 hb i hi (h i x (by have := List.mem_range.1 hx; omega) (List.mem_range.1 hx) e)
 refine ⟨h1, fun e s t hs ht hst => ?_⟩
 obtain ⟨r, a1, a2, a3⟩ := first_of g s
 obtain ⟨u, b1, b2, b3⟩ := first_of g t
 have c1 := h2 e r (List.mem_range.2 (by omega)) a3
 have c2 := h2 e u (List.mem_range.2 (by omega)) b3
 have d1 := h r s (by omega) hs a2
 have d2 := h u t (by omega) ht b2
 have : r = u := first_one c1 c2 (by rw [d1, d2, hst])
 rw [← a2, this, b2]
end
theorem numQ_le (p : Par) (k : Nat) : numQ p k ≤ p.next.length := by
 have := dd_length (keysQ p (clsQ p k))
 rw [keysQ_len] at this; exact this
theorem numQ_pos {p : Par} (hp : ValidP p) (k : Nat) : 0 < numQ p k := by
 have : keyQ p (clsQ p k) 0 ∈ dd (keysQ p (clsQ p k)) := mem_dd.2 (keysQ_mem hp.val.n0)
 exact List.length_pos_of_mem this
theorem numQ_step {p : Par} (hp : ValidP p) (k : Nat) : numQ p k ≤ numQ p (k + 1) ∧ (numQ p k = numQ p (k + 1) → ∀ s t, s < p.next.length → t < p.next.length → bisN p p (k + 1) s t → bisN p p (k + 2) s t) := by
 have hk : ∀ k s t, s < p.next.length → t < p.next.length → (keyQ p (clsQ p k) s = keyQ p (clsQ p k) t ↔ bisN p p (k + 1) s t) := fun k s t hs ht => by
  rw [← clsQ_bis hp (k + 1) s t hs ht]; exact (refQ_eq hs ht).symm
 obtain ⟨h1, h2⟩ := dd_stop (f := keyQ p (clsQ p k)) (g := keyQ p (clsQ p (k + 1))) (n := p.next.length) fun s t hs ht e => (hk k s t hs ht).2 (((hk (k + 1) s t hs ht).1 e).pred (by omega))
 exact ⟨h1, fun e s t hs ht hb => (hk (k + 1) s t hs ht).1 (h2 e s t hs ht ((hk k s t hs ht).2 hb))⟩
theorem cntQ_lt {p : Par} (hp : ValidP p) {k : Nat} (h : numQ p k ≠ cntQ p k) : cntQ p k < numQ p k := by
 cases k with
 | zero => exact numQ_pos hp 0
 | succ k => have := (numQ_step hp k).1; show numQ p k < numQ p (k + 1); have : numQ p (k + 1) ≠ numQ p k := h; omega
def eqQ (cs : List Nat) (s t : Nat) : Bool := decide (cs.getD s 0 = cs.getD t 0)
theorem clsQ_done {p : Par} (hp : ValidP p) {k : Nat} (h : numQ p k = cntQ p k) : BisB p (eqQ (clsQ p (k + 1))) := fun s t hs ht => by
 unfold eqQ
 rw [decide_eq_true_eq, clsQ_bis hp (k + 1) s t hs ht]
 cases k with
 | zero => have := numQ_pos hp 0; have : numQ p 0 = 0 := h; omega
 | succ k =>
  have h1 := (numQ_step hp k).2 h.symm
  exact ⟨fun hb => bis_stop hp h1 hs ht (hb.pred (by omega)), fun hb => hb _⟩
section
variable {p : Par} (hp : ValidP p) {e : Nat → Nat → Bool} (he : BisB p e)
include hp he
theorem qM_fin {i s x : Nat} (hi : (qN e p.d i)[i]? = some s) (hx : x ≤ letN p.d) : qM e p.d (qN e p.d i) s x <+: qN e p.d p.next.length := by
 have h1 := qM_pre e p.d (qN e p.d i) s hx
 rw [← qN_step hi] at h1
 have hil := (List.getElem?_eq_some_iff.1 hi).1
 have := qN_len hp he i
 exact h1.trans (qN_pre e p.d (by omega))
theorem qfind_old {i s x : Nat} (hi : (qN e p.d i)[i]? = some s) (hx : x < letN p.d) (ha : (qM e p.d (qN e p.d i) s x).any (fun k => e k (toN p.d s x)) = true) : qM e p.d (qN e p.d i) s (x + 1) = qM e p.d (qN e p.d i) s x ∧ qfind e (toN p.d s x) (qN e p.d p.next.length) = qfind e (toN p.d s x) (qM e p.d (qN e p.d i) s x) := by
 refine ⟨?_, qfind_pre (qM_fin hp he hi (by omega)) ha⟩
 rw [qM, qadd, if_pos ha]
theorem qfind_new {i s x : Nat} (hi : (qN e p.d i)[i]? = some s) (hx : x < letN p.d) (ha : ¬ (qM e p.d (qN e p.d i) s x).any (fun k => e k (toN p.d s x)) = true) : qM e p.d (qN e p.d i) s (x + 1) = qM e p.d (qN e p.d i) s x ++ [toN p.d s x] ∧ qfind e (toN p.d s x) (qN e p.d p.next.length) = (qM e p.d (qN e p.d i) s x).length := by
 have h0 : qM e p.d (qN e p.d i) s (x + 1) = qM e p.d (qN e p.d i) s x ++ [toN p.d s x] := by rw [qM, qadd, if_neg ha]
 refine ⟨h0, ?_⟩
 have hs : s < p.next.length := qN_lt hp e i s (List.mem_of_getElem? hi)
 have ht := (hp.val.toN_lt hs hx).1
 have hr : e (toN p.d s x) (toN p.d s x) = true := (he _ _ ht ht).2 (Bis.refl p _)
 have hpre := qM_fin hp he hi (show x + 1 ≤ letN p.d from hx)
 rw [h0] at hpre
 have app : ∀ (l : List Nat) (t : Nat), ¬ l.any (fun k => e k t) = true → e t t = true → qfind e t (l ++ [t]) = l.length := by
  intro l t hn htt
  induction l with
  | nil => simp [qfind, htt]
  | cons k l ih =>
   have hk : ¬ e k t = true := fun hk => hn (by simp [hk])
   have hl : ¬ l.any (fun k => e k t) = true := fun hl => hn (by simp only [List.any_cons, hl, Bool.or_true])
   rw [List.cons_append, qfind, if_neg hk, ih hl]; rfl
 rw [qfind_pre hpre (by simp [hr]), app _ _ ha hr]
theorem qN_last {i : Nat} (h : (qN e p.d i).length ≤ i) (hi : i ≤ p.next.length) : qN e p.d p.next.length = qN e p.d i := qN_stop h _ hi
theorem qN_at {i : Nat} (hi : i < (qN e p.d i).length) : ∃ s, (qN e p.d i)[i]? = some s ∧ s < p.next.length ∧ (qN e p.d p.next.length)[i]? = some s ∧ i < p.next.length := by
 have h0 := qN_len hp he i
 have hg := List.getElem?_eq_getElem hi
 refine ⟨_, hg, qN_lt hp e i _ (List.getElem_mem hi), ?_, by omega⟩
 obtain ⟨r, hr⟩ := qN_pre e p.d (i := i) (j := p.next.length) (by omega)
 rw [← hr, List.getElem?_append_left hi]; exact hg
end
def qCut (e : Nat → Nat → Bool) (d : DFA) (F : List Nat) (s x : Nat) : List Int := ((List.range x).map fun y => ((qfind e (toN d s y) F : Nat) : Int)) ++ List.replicate (letN d - x) 0
theorem qCut_zero (e : Nat → Nat → Bool) (d : DFA) (F : List Nat) (s : Nat) : qCut e d F s 0 = List.replicate (letN d) 0 := by simp [qCut]
theorem qCut_end (e : Nat → Nat → Bool) (d : DFA) (F : List Nat) (s : Nat) : qCut e d F s (letN d) = qRow e d F s := by simp [qCut, qRow]
theorem qCut_len {e : Nat → Nat → Bool} {d : DFA} {F : List Nat} {s x : Nat} (hx : x ≤ letN d) : (qCut e d F s x).length = letN d := by simp [qCut]; omega
theorem qCut_set {e : Nat → Nat → Bool} {d : DFA} {F : List Nat} {s x k : Nat} (hx : x < letN d) (hk : qfind e (toN d s x) F = k) : (qCut e d F s x).set x ((k : Nat) : Int) = qCut e d F s (x + 1) := by
 unfold qCut
 have hl : ((List.range x).map fun y => ((qfind e (toN d s y) F : Nat) : Int)).length = x := by simp
 rw [List.set_append_right _ _ (by omega), hl, Nat.sub_self, show letN d - x = (letN d - (x + 1)) + 1 by omega, List.replicate_succ, List.set_cons_zero, List.range_succ, List.map_append, ← hk]
 simp
structure RefQ (p : Par) (cs : List Nat) (s : Nat) (xs : List Nat) (ks : List KeyQ) : Prop where
 le : s ≤ p.next.length
 len : xs.length = p.next.length
 ks_ : ks = dd ((keysQ p cs).take s)
 at_ : ∀ j, j < s → xs[j]? = some (ix (keyQ p cs j) ks)
theorem RefQ.start (p : Par) (cs : List Nat) : RefQ p cs 0 (List.replicate p.next.length 0) [] := ⟨Nat.zero_le _, by simp, rfl, fun j h => absurd h (Nat.not_lt_zero _)⟩
theorem RefQ.few {p : Par} {cs : List Nat} {s : Nat} {xs : List Nat} {ks : List KeyQ} (h : RefQ p cs s xs ks) : ks.length ≤ s := by
 rw [h.ks_]
 have := dd_length ((keysQ p cs).take s)
 rw [List.length_take] at this; omega
theorem RefQ.hit {p : Par} {cs : List Nat} {s : Nat} {xs : List Nat} {ks : List KeyQ} (h : RefQ p cs s xs ks) (hs : s < p.next.length) (hm : keyQ p cs s ∈ ks) : RefQ p cs (s + 1) (xs.set s (ix (keyQ p cs s) ks)) ks := by
 refine ⟨hs, by simp [h.len], ?_, fun j hj => ?_⟩
 ·rw [keysQ_take hs, dd_snoc, ← h.ks_, add, if_pos hm]
 ·by_cases e : j = s
  ·subst e; rw [List.getElem?_set_self (by rw [h.len]; exact hs)]
  ·rw [List.getElem?_set_ne (fun g => e g.symm)]; exact h.at_ j (by omega)
theorem RefQ.miss {p : Par} {cs : List Nat} {s : Nat} {xs : List Nat} {ks : List KeyQ} (h : RefQ p cs s xs ks) (hs : s < p.next.length) (hm : keyQ p cs s ∉ ks) : RefQ p cs (s + 1) (xs.set s ks.length) (ks ++ [keyQ p cs s]) := by
 refine ⟨hs, by simp [h.len], ?_, fun j hj => ?_⟩
 ·rw [keysQ_take hs, dd_snoc, ← h.ks_, add, if_neg hm]
 ·by_cases e : j = s
  ·subst e; rw [List.getElem?_set_self (by rw [h.len]; exact hs), ix_append_right hm]; simp [ix]
  ·rw [List.getElem?_set_ne (fun g => e g.symm), h.at_ j (by omega)]
   refine congrArg some (ix_append_left ?_).symm
   rw [h.ks_]; exact mem_dd.2 (keysQ_memT (by omega) h.le)
theorem RefQ.done {p : Par} {cs : List Nat} {s : Nat} {xs : List Nat} {ks : List KeyQ} (h : RefQ p cs s xs ks) (hs : s = p.next.length) : xs = refQ p cs ∧ ks = dd (keysQ p cs) := by
 subst hs
 have hk : ks = dd (keysQ p cs) := by rw [h.ks_, List.take_of_length_le (by rw [keysQ_len]; exact Nat.le_refl _)]
 refine ⟨?_, hk⟩
 apply List.ext_getElem?
 intro j
 by_cases hj : j < p.next.length
 ·rw [h.at_ j hj, hk]
  unfold refQ keysQ
  rw [List.getElem?_map, List.getElem?_map, List.getElem?_range hj]; rfl
 ·rw [List.getElem?_eq_none (by rw [h.len]; omega), List.getElem?_eq_none (by rw [refQ_len]; omega)]
theorem zip_snoc {α : Type} (ks : List α) (k : α) : (ks ++ [k]).zipIdx = ks.zipIdx ++ [(k, ks.length)] := by rw [List.zipIdx_append]; simp
theorem look_zk {x : KeyQ} (ks : List KeyQ) : lookL x ks.zipIdx = if x ∈ ks then some (ix x ks) else none := by rw [look_zip]; simp
def mpQ (cs l : List Nat) : List (Int × Nat) := (l.map fun s => ((cs.getD s 0 : Nat) : Int)).zipIdx
theorem mpQ_fst (cs l : List Nat) : (mpQ cs l).map Prod.fst = l.map fun s => ((cs.getD s 0 : Nat) : Int) := zipIdx_fst _ 0
theorem mpQ_snoc (cs l : List Nat) (t : Nat) : mpQ cs (l ++ [t]) = mpQ cs l ++ [(((cs.getD t 0 : Nat) : Int), l.length)] := by
 unfold mpQ; rw [List.map_append, List.zipIdx_append]; simp
theorem mpQ_mem {cs l : List Nat} {t : Nat} : ((cs.getD t 0 : Nat) : Int) ∈ (l.map fun s => ((cs.getD s 0 : Nat) : Int)) ↔ l.any (fun k => eqQ cs k t) = true := by
 rw [List.any_eq_true, List.mem_map]
 exact ⟨fun ⟨a, h1, h2⟩ => ⟨a, h1, decide_eq_true (by omega)⟩, fun ⟨a, h1, h2⟩ => ⟨a, h1, by have := of_decide_eq_true h2; omega⟩⟩
theorem mpQ_ix {cs : List Nat} {t : Nat} : ∀ l : List Nat, ix ((cs.getD t 0 : Nat) : Int) (l.map fun s => ((cs.getD s 0 : Nat) : Int)) = qfind (eqQ cs) t l
 | [] => rfl
 | k :: l => by
  have ih := mpQ_ix (cs := cs) (t := t) l
  simp only [List.map_cons, ix, qfind, ih]
  by_cases e : cs.getD t 0 = cs.getD k 0
  ·rw [if_pos (by omega), if_pos (by unfold eqQ; exact decide_eq_true e.symm)]
  ·rw [if_neg (by omega), if_neg (by unfold eqQ; rw [decide_eq_true_eq]; exact fun g => e g.symm)]
theorem mpQ_look (cs l : List Nat) (t : Nat) : lookL ((cs.getD t 0 : Nat) : Int) (mpQ cs l) = if l.any (fun k => eqQ cs k t) = true then some (qfind (eqQ cs) t l) else none := by
 unfold mpQ
 rw [look_zip]
 by_cases h : l.any (fun k => eqQ cs k t) = true
 ·rw [if_pos h, if_pos (mpQ_mem.2 h), mpQ_ix]; simp
 ·rw [if_neg h, if_neg (fun g => h (mpQ_mem.1 g))]
theorem mpQ_new {cs l : List Nat} {t : Nat} (h : ¬ l.any (fun k => eqQ cs k t) = true) : ((cs.getD t 0 : Nat) : Int) ∉ (mpQ cs l).map Prod.fst := by
 rw [mpQ_fst]; exact fun g => h (mpQ_mem.1 g)
theorem prio_cls {p : Par} (hv : ValidP p) : ints p.prio = nats (clsQ p 0) := by
 unfold ints nats clsQ
 rw [List.map_map]
 apply List.ext_getElem?
 intro j
 rw [List.getElem?_map, List.getElem?_map]
 by_cases hj : j < p.next.length
 ·rw [hv.prAt hj, List.getElem?_range hj]; rfl
 ·rw [List.getElem?_eq_none (by rw [hv.pl]; omega), List.getElem?_eq_none (by rw [List.length_range]; omega)]; rfl
theorem clsQ_lt {p : Par} (hv : ValidP p) : ∀ k, ∀ x ∈ clsQ p k, x < 10000
 | 0, x, hx => by
  obtain ⟨s, _, rfl⟩ := List.mem_map.1 hx
  have := hv.prLe s; omega
 | k + 1, x, hx => by
  obtain ⟨q, hq, rfl⟩ := List.mem_map.1 hx
  have h1 := ix_lt (mem_dd.2 hq)
  have h2 := dd_length (keysQ p (clsQ p k))
  rw [keysQ_len] at h2
  have := hv.n4; omega
theorem cls_get {cs : List Nat} {s n : Nat} (hl : cs.length = n) (hs : s < n) : (nats cs)[s]? = some (.int .i64 ((cs.getD s 0 : Nat) : Int)) := by
 rw [List.getElem?_map, List.getD_eq_getElem?_getD, List.getElem?_eq_getElem (by omega)]; rfl
theorem rowQ_len (p : Par) (cs : List Nat) (s : Nat) : (rowQ p cs s).length = letN p.d := by simp [rowQ]
theorem rowQ_get {p : Par} {cs : List Nat} {s x : Nat} (hx : x < letN p.d) : (rowQ p cs s)[x]? = some (cs.getD (toN p.d s x) 0) := by
 unfold rowQ; rw [List.getElem?_map, List.getElem?_range hx]; rfl
theorem rowQ_lt {p : Par} {cs : List Nat} (h : ∀ x ∈ cs, x < 10000) (s : Nat) : ∀ x ∈ rowQ p cs s, x < 10000 := fun x hx => by
 obtain ⟨y, _, rfl⟩ := List.mem_map.1 hx
 rw [List.getD_eq_getElem?_getD]
 cases e : cs[toN p.d s y]? with
 | none => simp
 | some z => exact h z (List.mem_of_getElem? e)
def nCut (r : List Nat) (x : Nat) : List Nat := r.take x ++ List.replicate (r.length - x) 0
theorem nCut_zero (r : List Nat) : nCut r 0 = List.replicate r.length 0 := by simp [nCut]
theorem nCut_end (r : List Nat) : nCut r r.length = r := by simp [nCut]
theorem nCut_len (r : List Nat) {x : Nat} (h : x ≤ r.length) : (nCut r x).length = r.length := by simp [nCut]; omega
theorem nCut_set {r : List Nat} {x v : Nat} (hx : x < r.length) (h : r[x]? = some v) : (nCut r x).set x v = nCut r (x + 1) := by
 unfold nCut
 have hl : (r.take x).length = x := by rw [List.length_take]; omega
 rw [List.getElem?_eq_getElem hx] at h
 rw [List.set_append_right _ _ (by omega), hl, Nat.sub_self, show r.length - x = (r.length - (x + 1)) + 1 by omega, List.replicate_succ, List.set_cons_zero, List.take_succ_eq_append_getElem hx, Option.some.inj h]
 simp
noncomputable def quoV (p : Par) : Par := if checkP p = 0 then quV p else noP
theorem quoV_of {p : Par} (h : checkP p = 0) {e : Nat → Nat → Bool} (he : BisB p e) : quoV p = quoP e p := by
 unfold quoV quV; rw [if_pos h]; exact quoP_congr (checkP_zero.1 h) (bisB_is p) he
theorem quoV_no {p : Par} (h : checkP p ≠ 0) : quoV p = noP := if_neg h
end Go.Lx


namespace Go.Proofs.YtnikhiohindggaaDoor
open Go.Lx Go.RowKit _root_.Go.Proofs.Tryd
theorem copyCheckFresh (base : World) [Tab Tryd.prog base] (bb : Nat) (zb : Option Addr) (n zc : Nat) :
  CallT Tryd.prog base 95 [(.pointer (aD bb))] [oI bb 107 [(.pointer none), (.slice zb n zc)]] (fun _ O' => O' = [oI bb 107 [(.pointer (aD bb)), (.slice zb n zc)]]) := by
 refine CallT.enter func95 rfl ntmps95 rfl ?_
 obtain ⟨ji, hj1, hj2, hj3, hj4⟩ := inf107.get
 have hj0 : ji.size ≠ 0 := by rw [hj3]; decide
 refine T.s (T.rg (TO.qm rfl (TO.q (q_nilCheck rfl) (TO.q (q_fa uT107 rfl inf105 rfl rfl) (TO.q (q_lb 0 uT105 rfl rfl rfl rfl) (TO.q (q_ptrNil uT105 rfl) (TO.nl ?_)))))))
 refine T.cond1 rfl ?_
 refine T.rg (TO.qm rfl (TO.qm rfl (TO.q (q_toUnsafe 0 uT105 uT126 hj1 hj0 rfl rfl (by simp)) (TO.l rfl (LT.oq rfl rfl (q_noEscape func103 (by kernel_rfl) (by kernel_rfl) (by kernel_rfl) (by kernel_rfl) rfl) ?_)))))
 refine TO.q (q_fromUnsafe 0 uT126 uT105 hj1 rfl rfl (by kernel_rfl)) (TO.q (q_nilCheck rfl) (TO.q (q_fa uT107 rfl inf105 rfl rfl) (TO.l rfl (l_sb (v := (.pointer (aD bb))) (vs := [(.pointer (aD bb))]) 0 inf105 rfl rfl rfl rfl rfl rfl (by simp [putL]) ?_))))
 refine TO.nl ?_
 refine Res.zero Tryd.results95 ?_
 exact rfl
theorem writeStrFresh (base : World) [Tab Tryd.prog base] (bb : Nat) (zb : Option Addr) (n zc : Nat) (bs s : List UInt8) (hn : bs.length = n) (hb : n + s.length ≤ 100000000) :
  CallT Tryd.prog base 81 [(.pointer (aD bb)), str s] [oI bb 107 [(.pointer none), (.slice zb n zc)], rowI zb zc 5 1 (cells8 bs)] (fun _ O' => ∃ yb yc, O' = [oI bb 107 [(.pointer (aD bb)), (.slice yb (n + s.length) yc)], rowI yb yc 5 1 (cells8 (bs ++ s))]) := by
 refine CallT.enter func81 rfl ntmps81 rfl ?_
 refine T.s (T.rg (TO.qa rfl (TO.qa rfl (TO.nl (T.s (T.rg (TO.qm rfl (TO.l rfl (l_call ent95 (CallT.un [0] (copyCheckFresh base bb zb n zc)) rfl ?_)))))))))
 rintro vr O' ⟨A1, rfl, rfl⟩
 refine TO.nl (T.s (T.rg (TO.qm rfl (TO.qm rfl (TO.q (q_nilCheck rfl) (TO.q (q_fa uT107 rfl inf26 rfl rfl) (TO.q (q_lb 0 uT26 rfl rfl rfl rfl) (TO.qm rfl (TO.l rfl (l_appendS (s := s) 1 uT26 uT9 inf5 rfl rfl rfl rfl (by simp [hn]) rfl (by omega) (by decide) (by decide) (fun yb yc => ?_)))))))))))
 refine TO.q (q_nilCheck rfl) (TO.q (q_fa uT107 rfl inf26 rfl rfl) (TO.l rfl (l_sb (v := (.slice yb (n + s.length) yc)) (vs := [(.slice yb (n + s.length) yc)]) 0 inf26 rfl rfl rfl rfl rfl rfl (by simp [putL]) ?_)))
 refine TO.nl (T.s (T.rg (TO.qm rfl (TO.q (q_lenStr uT9 rfl) (TO.qa rfl (TO.qa rfl (TO.nl (T.ret ?_))))))))
 refine Res.two (vI (s.length : Int)) .nilIface Tryd.results81 rfl rfl ?_
 exact ⟨yb, yc, by rw [show cells8 (bs ++ s) = cells8 bs ++ cells8 s from List.map_append]; rfl⟩
theorem copyCheckUsed (base : World) [Tab Tryd.prog base] (bb : Nat) (zb : Option Addr) (n zc : Nat) :
  CallT Tryd.prog base 95 [(.pointer (aD bb))] [oI bb 107 [(.pointer (aD bb)), (.slice zb n zc)]] (fun _ O' => O' = [oI bb 107 [(.pointer (aD bb)), (.slice zb n zc)]]) := by
 refine CallT.enter func95 rfl ntmps95 rfl ?_
 obtain ⟨ji, hj1, hj2, hj3, hj4⟩ := inf107.get
 have hj0 : ji.size ≠ 0 := by rw [hj3]; decide
 refine T.s (T.rg (TO.qm rfl (TO.q (q_nilCheck rfl) (TO.q (q_fa uT107 rfl inf105 rfl rfl) (TO.q (q_lb 0 uT105 rfl rfl rfl rfl) (TO.q (q_ptrSome uT105 rfl) (TO.nl (T.cond0 rfl (T.s (T.rg (TO.qm rfl (TO.q (q_nilCheck rfl) (TO.q (q_fa uT107 rfl inf105 rfl rfl) (TO.q (q_lb 0 uT105 rfl rfl rfl rfl) (TO.qm rfl (TO.q (q_ptrNeq uT105 hj1 rfl rfl) ?_))))))))))))))))
 refine TO.nl (T.cond0 rfl (T.skip ?_))
 refine Res.zero Tryd.results95 ?_
 exact rfl
theorem writeStrUsed (base : World) [Tab Tryd.prog base] (bb : Nat) (zb : Option Addr) (n zc : Nat) (bs s : List UInt8) (hn : bs.length = n) (hb : n + s.length ≤ 100000000) :
  CallT Tryd.prog base 81 [(.pointer (aD bb)), str s] [oI bb 107 [(.pointer (aD bb)), (.slice zb n zc)], rowI zb zc 5 1 (cells8 bs)] (fun _ O' => ∃ yb yc, O' = [oI bb 107 [(.pointer (aD bb)), (.slice yb (n + s.length) yc)], rowI yb yc 5 1 (cells8 (bs ++ s))]) := by
 refine CallT.enter func81 rfl ntmps81 rfl ?_
 refine T.s (T.rg (TO.qa rfl (TO.qa rfl (TO.nl (T.s (T.rg (TO.qm rfl (TO.l rfl (l_call ent95 (CallT.un [0] (copyCheckUsed base bb zb n zc)) rfl ?_)))))))))
 rintro vr O' ⟨A1, rfl, rfl⟩
 refine TO.nl (T.s (T.rg (TO.qm rfl (TO.qm rfl (TO.q (q_nilCheck rfl) (TO.q (q_fa uT107 rfl inf26 rfl rfl) (TO.q (q_lb 0 uT26 rfl rfl rfl rfl) (TO.qm rfl (TO.l rfl (l_appendS (s := s) 1 uT26 uT9 inf5 rfl rfl rfl rfl (by simp [hn]) rfl (by omega) (by decide) (by decide) (fun yb yc => ?_)))))))))))
 refine TO.q (q_nilCheck rfl) (TO.q (q_fa uT107 rfl inf26 rfl rfl) (TO.l rfl (l_sb (v := (.slice yb (n + s.length) yc)) (vs := [(.slice yb (n + s.length) yc)]) 0 inf26 rfl rfl rfl rfl rfl rfl (by simp [putL]) ?_)))
 refine TO.nl (T.s (T.rg (TO.qm rfl (TO.q (q_lenStr uT9 rfl) (TO.qa rfl (TO.qa rfl (TO.nl (T.ret ?_))))))))
 refine Res.two (vI (s.length : Int)) .nilIface Tryd.results81 rfl rfl ?_
 exact ⟨yb, yc, by rw [show cells8 (bs ++ s) = cells8 bs ++ cells8 s from List.map_append]; rfl⟩
theorem stringF (base : World) [Tab Tryd.prog base] (bb : Nat) (pv : Value) (zb : Option Addr) (n zc : Nat) (bs : List UInt8) (hn : bs.length = n) (hb : n ≤ 100000000) (hne : zc ≠ 0 ∨ zb = none) :
  CallT Tryd.prog base 83 [(.pointer (aD bb))] [rowI zb zc 5 1 (cells8 bs), oI bb 107 [pv, (.slice zb n zc)]] (fun v O' => v = str bs ∧ O' = [oI bb 107 [pv, (.slice zb n zc)]]) := by
 refine CallT.enter func83 rfl ntmps83 rfl ?_
 refine T.s (T.rg (TO.qa rfl (TO.nl (T.s ?_))))
 refine T.draws [oI bb 107 [pv, (.slice zb n zc)]] [(0, 0), (1, 0), (2, 0), (3, 0), (4, 0), (5, 0), (6, 0), (7, 0), (8, 0), (9, 0), (10, 2), (11, 2)] mixed (drawF_ok (by kernel_rfl)) (Sub.pick [1] rfl) (fun _ _ _ h => h) ?_
 refine DO.q rfl (q_move rfl) (DO.q rfl (q_nilCheck rfl) (DO.q rfl (q_fa uT107 rfl inf26 rfl rfl) (DO.q rfl (q_lb 0 uT26 rfl rfl rfl rfl) (DO.q rfl (q_sliceData (c' := 0) (k := 0) (E := 0) (cs := []) rfl hne) (DO.q rfl (q_move rfl) (DO.q rfl (q_nilCheck rfl) (DO.q rfl (q_fa uT107 rfl inf26 rfl rfl) (DO.q rfl (q_lb 0 uT26 rfl rfl rfl rfl) (DO.q rfl (q_len uT26 rfl) ?_)))))))))
 refine DO.last rfl rfl (l_unsafeString (l := bs) (c := zc) uT118 (by kernel_rfl) rfl (by rw [hn]; rfl) (by omega) rfl ?_)
 refine DO.last rfl rfl (LT.oq rfl rfl (q_assign rfl) ?_)
 refine DO.done ?_
 refine T.ret ?_
 refine Res.one (str bs) Tryd.results83 rfl ?_
 exact ⟨rfl, rfl⟩
theorem writeStr (base : World) [Tab Tryd.prog base] [Tab Tryd.prog base] (bb : Nat) (pv : Value) (hp : pv = .pointer none ∨ pv = (.pointer (aD bb))) (zb : Option Addr) (n zc : Nat) (bs s : List UInt8) (hn : bs.length = n) (hb : n + s.length ≤ 100000000) :
  CallT Tryd.prog base 81 [(.pointer (aD bb)), str s] [objI bb (.cells (List.toArray [pv, (.slice zb n zc)]) 107 (0, 0)), rowI zb zc 5 1 (cells8 bs)] (fun _ O' => ∃ yb yc, O' = [objI bb (.cells (List.toArray [(.pointer (aD bb)), (.slice yb (n + s.length) yc)]) 107 (0, 0)), rowI yb yc 5 1 (cells8 (bs ++ s))]) := by
 rcases hp with rfl | rfl
 ·exact writeStrFresh base bb zb n zc bs s hn hb
 ·exact writeStrUsed base bb zb n zc bs s hn hb
theorem textF (w : World) [Tab Tryd.prog w] (b : Option Addr) (c : Nat) (l : List Nat) (h : Sl w b (nats l)) (hl : ∀ x ∈ l, x < 10000) (hll : l.length ≤ 64) :
  PureT Tryd.prog 58 [.slice b l.length c] w fun v N => v = str (txtL l) ∧ N = [] := by
 refine CallT.enter func58 rfl ntmps58 rfl ?_
 refine T.s (T.rg (TO.qa rfl (TO.nl (T.s (T.rg (TO.l rfl (l_alloc inf107 rfl (fun bx1 => ?_))))))))
 refine TO.nl (T.s (T.s (T.rg (TO.qm rfl (TO.q (q_len uT23 rfl) (TO.qm rfl (TO.nl (T.block (T.nilRow 5 1 ?_)))))))))
 refine T.loopS (fun (j : Nat) ρ O => ∃ (pv : Value) (zb : Option Addr) (zc : Nat), O = [rowI zb zc 5 1 (cells8 (txtL (l.take j))), oI bx1 107 [pv, (.slice zb ((txtL (l.take j)).length) zc)]] ∧ j ≤ l.length ∧ (pv = .pointer none ∨ pv = (.pointer (aD bx1))) ∧ (zc ≠ 0 ∨ zb = none) ∧ Heads [(0, (.slice b l.length c)), (2, (str [])), (3, (.pointer (aD bx1))), (6, (.slice b l.length c)), (7, vI (l.length : Int)), (8, vI ((j : Nat) : Int))] ρ) (fun j => l.length - j) 0 ?_ ?_
 ·exact ⟨.pointer none, none, 0, rfl, Nat.zero_le _, .inl rfl, .inr rfl, (.of rfl)⟩
 rintro j ρ O ⟨pv, zb, zc, rfl, hj, hpv, hzc, hH⟩
 obtain ⟨ρ0, rfl⟩ := hH.elim
 clear hH
 have htl := txtL_len (l := l.take j) (fun x hx => hl x (List.mem_of_mem_take hx))
 rw [List.length_take] at htl
 refine T.s (T.rg (TO.q (q_lss rfl rfl) (TO.nl (T.s (T.condP rfl (fun hc => ?_) (fun hc => ?_))))))
 ·have hlt9 : j < l.length := by omega
  have hjl : j < l.length := by omega
  have hx9 := hl _ (List.getElem_mem hjl)
  have hdl := dec_len 3 l[j] (by omega)
  refine T.skip (T.s (T.block (T.s (T.rg (TO.q (q_ix (i := j) uT23 inf3 rfl rfl (Sl.o h) hjl (by rw [List.length_map]; exact hjl)) (TO.q (q_ld uT3 rfl rfl (Sl.o h) (nats_get hjl)) (TO.qa rfl (TO.nl (T.rg (TO.qm rfl ?_))))))))))
  have hk13 := fun (w1 : World) (hI : Inv w [rowI zb zc 5 1 (cells8 (txtL (l.take j))), oI bx1 107 [pv, (.slice zb ((txtL (l.take j)).length) zc)]] w1) => (haveI := tbz hI; itoaF w1 l[j] (by omega))
  refine TO.l rfl (l_call ent82 (CallT.op hk13) rfl ?_)
  clear hk13
  rintro vr O' ⟨N, rfl, rfl, rfl⟩
  refine TO.q (q_strcat (a := Lib.decDigits l[j]) (b := [32]) (by show _ + 1 ≤ _; omega) rfl rfl) (TO.l rfl (l_call ent81 (CallT.un [1, 0] (writeStr w bx1 pv hpv zb (txtL (l.take j)).length zc (txtL (l.take j)) (Lib.decDigits l[j] ++ [32]) rfl (by rw [List.length_append]; show _ + (_ + 1) ≤ _; omega))) rfl ?_))
  rintro vr O' ⟨A1, rfl, yb, yc, rfl⟩
  refine TO.nl ?_
  refine T.have (φ := (txtL (l.take j)).length + ((Lib.decDigits l[j]).length + 1) ≤ yc) (fun w9 hI => by have := rowP.capLe (hI.row (i := 1) rfl); simpa using this) (fun hcap => ?_)
  refine T.rg (TO.q (q_addN (a := j) (b := 1) rfl rfl (by omega)) (TO.qm rfl (TO.nl ?_)))
  have hst : txtL (l.take (j + 1)) = txtL (l.take j) ++ (Lib.decDigits l[j] ++ [32]) := by rw [List.take_succ_eq_append_getElem hjl, txtL_snoc]
  have hsl : (txtL (l.take j) ++ (Lib.decDigits l[j] ++ [32])).length = (txtL (l.take j)).length + (Lib.decDigits l[j] ++ [32]).length := List.length_append
  exact ⟨j + 1, by omega, [rowI yb yc 5 1 (cells8 (txtL (l.take j) ++ (Lib.decDigits l[j] ++ [32]))), oI bx1 107 [(.pointer (aD bx1)), (.slice yb ((txtL (l.take j)).length + (Lib.decDigits l[j] ++ [32]).length) yc)]], (Sub.pick [1, 0] rfl), (.pointer (aD bx1)), yb, yc, by rw [hst, hsl], by omega, .inr rfl, .inl (by omega), (.of rfl)⟩
 have hge9 : ¬ j < l.length := by omega
 refine T.exit ?_
 refine T.s ?_
 have hjt : l.take j = l := List.take_of_length_le (by omega)
 refine T.rg (TO.l rfl (l_call ent83 (CallT.un [0, 0] (stringF w bx1 pv zb (txtL (l.take j)).length zc (txtL (l.take j)) rfl (by omega) hzc)) rfl ?_))
 rintro vr O' ⟨A1, rfl, rfl, rfl⟩
 refine TO.qa rfl (TO.nl (T.ret (Res.drop ?_)))
 refine Res.one (str (txtL (l.take j))) Tryd.results58 rfl ?_
 exact ⟨[], Sub.z, by rw [hjt], rfl⟩
end Go.Proofs.YtnikhiohindggaaDoor


namespace Go.Proofs.YtnikhiohindggaaDoor
open Go.Lx Go.RowKit _root_.Go.Proofs.Tryd
theorem valsC (w : World) [Tab Tryd.prog w] (b : Option Addr) (c : Nat) (l : List Int) :
  PureT Tryd.prog 78 [.slice b l.length c] w fun v N => ∃ xb : Nat, v = (.func (.func 94) #[] #[(.pointer (aD xb))]) ∧ N = [oI xb 23 [(.slice b l.length c)]] := by
 refine CallT.enter func78 rfl ntmps78 rfl ?_
 refine T.s (T.rg (TO.l rfl (l_box (v := (.slice b l.length c)) (cs := [(.slice b l.length c)]) rfl rfl (fun bx1 => ?_))))
 refine TO.qa rfl (TO.nl (T.s (T.rg (TO.q (q_makeFunc) (TO.qa rfl (TO.nl (T.ret ?_)))))))
 refine Res.one (.func (.func 94) #[] #[(.pointer (aD bx1))]) Tryd.results78 rfl ?_
 exact ⟨bx1, rfl, rfl⟩
theorem valsF (base : World) [Tab Tryd.prog base] (xb c : Nat) (b : Option Addr) (l : List Int) (hb : Sl base b (ints l)) (hll : l.length < 1000000) (yv : Value) (J : Nat → List Lx.Item → Prop)
  (hy : ∀ (i : Nat) (q : Int) (O : List Lx.Item), l[i]? = some q → J i O → CallV Tryd.prog base yv [vI q] O (fun v O' => v = .bool true ∧ J (i + 1) O'))
  (O : List Lx.Item) (h0 : J 0 O) :
  CallT Tryd.prog base 94 [yv, .pointer (aD xb)] ([oI xb 23 [(.slice b l.length c)]] ++ O) (fun _ O' => J l.length O') := by
 refine CallT.enter func94 rfl ntmps94 rfl ?_
 refine T.s (T.rg (TO.q (q_lb 0 underlying23 rfl rfl rfl rfl) (TO.q (q_len underlying23 rfl) (TO.qm rfl (TO.nl (T.block ?_))))))
 refine T.loop (fun (i : Nat) ρ O => ∃ (O1 : List Lx.Item), O = ([oI xb 23 [(.slice b l.length c)]] ++ O1) ∧ i ≤ l.length ∧ J i O1 ∧ Heads [(0, yv), (1, (.pointer (aD xb))), (5, (.slice b l.length c)), (6, vI (l.length : Int)), (7, vI ((i : Nat) : Int))] ρ) (fun i => l.length - i) 0 ?_ ?_
 ·exact ⟨O, rfl, Nat.zero_le _, h0, (.of rfl)⟩
 rintro i ρ O ⟨O1, rfl, hi, hJ, hH⟩
 obtain ⟨ρ0, rfl⟩ := hH.elim
 clear hH
 refine T.s (T.rg (TO.q (q_lss rfl rfl) (TO.nl (T.s (T.condP rfl (fun hc => ?_) (fun hc => ?_))))))
 ·have hlt8 : i < l.length := by omega
  have hil : i < l.length := by omega
  obtain ⟨q, hiq⟩ : ∃ q, l[i]? = some q := ⟨_, List.getElem?_eq_getElem hil⟩
  have hiq2 : (ints l)[i]? = some (vI q) := by rw [List.getElem?_map, hiq]; rfl
  refine T.skip (T.s (T.block (T.s (T.rg (TO.q (q_ix (i := i) underlying23 inf3 rfl rfl (Sl.o hb) hil (by rw [List.length_map]; exact hil)) (TO.q (q_ld underlying3 rfl rfl (Sl.o hb) hiq2) (TO.qa rfl (TO.nl (T.s (T.rg (TO.qm rfl (TO.qm rfl ?_))))))))))))
  have hk13 := CallV.under (B := [oI xb 23 [(.slice b l.length c)]]) (O := ([oI xb 23 [(.slice b l.length c)]] ++ O1)) (hy i q O1 hiq hJ) (Sub.ca [])
  refine TO.l rfl (l_callG hk13 rfl rfl ?_)
  clear hk13
  rintro vr O' ⟨A1, rfl, rfl, hJ2⟩
  refine TO.sub (O' := ([oI xb 23 [(.slice b l.length c)]] ++ A1)) (Sub.ca []) ?_
  refine TO.q (q_not rfl) (TO.nl (T.cond0 rfl (T.skip (T.rg (TO.q (q_addN (a := i) (b := 1) rfl rfl (by omega)) (TO.qm rfl (TO.nl ?_)))))))
  exact ⟨i + 1, by omega, A1, rfl, by omega, hJ2, (.of rfl)⟩
 have hge8 : ¬ i < l.length := by omega
 refine T.exit ?_
 refine Res.drop ?_
 refine Res.zero Tryd.results94 ?_
 have hie : i = l.length := by omega
 exact ⟨O1, Sub.ca [oI xb 23 [(.slice b l.length c)]], by rw [← hie]; exact hJ⟩
theorem indexN (w : World) [Tab Tryd.prog w] (b : Option Addr) (c : Nat) (l : List Nat) (h : Sl w b (nats l)) (hb : l.length < 1000000) (v : Nat) (hm : v ∈ l) :
  PureT Tryd.prog 80 [.slice b l.length c, vI ((v : Nat) : Int)] w fun r N => (∃ i, ∃ hi : i < l.length, l[i] = v ∧ v ∉ l.take i ∧ r = vI ((i : Nat) : Int)) ∧ N = [] := by
 refine CallT.enter func80 rfl ntmps80 rfl ?_
 refine T.s (T.rg (TO.qa rfl (TO.nl (T.s (T.s (T.rg (TO.qm rfl (TO.q (q_len underlying23 rfl) (TO.qm rfl (TO.nl (T.block ?_)))))))))))
 refine T.loop (fun (i : Nat) ρ O => O = [] ∧ i ≤ l.length ∧ v ∉ l.take i ∧ Heads [(0, (.slice b l.length c)), (1, vI ((v : Nat) : Int)), (7, vI (l.length : Int)), (8, vI ((i : Nat) : Int))] ρ) (fun i => l.length - i) 0 ?_ ?_
 ·exact ⟨rfl, Nat.zero_le _, by simp, ⟨rfl, rfl, rfl, rfl, trivial⟩⟩
 rintro i ρ O ⟨rfl, hi, hno, hH⟩
 obtain ⟨ρ0, rfl⟩ := hH.elim
 clear hH
 refine T.s (T.rg (TO.q (q_lss rfl rfl) (TO.nl (T.s (T.condP rfl (fun hc => ?_) (fun hc => ?_))))))
 ·have hlt9 : i < l.length := by omega
  have hil : i < l.length := by omega
  refine T.skip (T.s (T.block (T.s (T.rg (TO.qm rfl (TO.qa rfl (TO.nl (T.s (T.rg (TO.qm rfl (TO.qm rfl (TO.qm rfl (TO.q (q_ix (i := i) underlying23 inf3 rfl rfl (Sl.o h)) (TO.q (q_ld underlying3 rfl rfl (Sl.o h) nats_get) (TO.q (q_eql rfl rfl) (TO.nl (T.condP rfl (fun hc => ?_) (fun hc => ?_))))))))))))))))))
  ·have hlt16 : v = l[i] := by omega
   refine T.s (T.rg (TO.qm rfl (TO.qa rfl (TO.nl (T.ret (Res.drop ?_))))))
   refine Res.one (vI ((i : Nat) : Int)) Tryd.results80 rfl ?_
   exact ⟨[], Sub.z, ⟨i, hil, by omega, hno, rfl⟩, rfl⟩
  have hge16 : ¬ v = l[i] := by omega
  refine T.skip (T.rg (TO.q (q_addN (a := i) (b := 1) rfl rfl (by omega)) (TO.qm rfl (TO.nl ?_))))
  refine ⟨i + 1, by omega, rfl, by omega, ?_, ⟨rfl, rfl, rfl, rfl, trivial⟩⟩
  rw [List.take_succ_eq_append_getElem hil]
  simp only [List.mem_append, List.mem_singleton, not_or]
  exact ⟨hno, fun e => by omega⟩
 have hge9 : ¬ i < l.length := by omega
 refine T.exit ?_
 refine T.s (T.rg (TO.qa rfl (TO.nl (T.ret (Res.drop ?_)))))
 refine Res.one (vI (-1)) Tryd.results80 rfl ?_
 rw [List.take_of_length_le (by omega)] at hno
 exact absurd hm hno
theorem ofC (w : World) [Tab Tryd.prog w] (p : Par) (k : DK) :
  PureT Tryd.prog 51 [pV p k] w fun v N => ∃ gx : Nat, v = .agg #[vI ((p.next.length : Nat) : Int), (.func (.func 77) #[] #[(.pointer (aD gx))])] ∧ N = [oI gx 25 (pC p k)] := by
 refine CallT.enter func51 rfl ntmps51 rfl ?_
 refine T.s (T.rg (TO.l rfl (l_box (v := (pV p k)) (cs := (pC p k)) rfl rfl (fun bx1 => ?_))))
 refine TO.l rfl (l_alloc inf76 rfl (fun bx2 => ?_))
 refine TO.nl (T.s (T.rg (TO.q (q_fa underlying25 rfl inf22 rfl rfl) (TO.q (q_lb 1 underlying22 rfl rfl rfl rfl) (TO.q (q_len underlying22 rfl) (TO.q (q_makeFunc) (TO.q (q_build (cs := [vI (p.next.length : Int), (.func (.func 77) #[] #[(.pointer (aD bx1))])]) plan76 inf76 (by kernel_rfl)) (TO.l rfl (l_sb (v := (.agg #[vI (p.next.length : Int), (.func (.func 77) #[] #[(.pointer (aD bx1))])])) (vs := [vI (p.next.length : Int), (.func (.func 77) #[] #[(.pointer (aD bx1))])]) 0 inf76 rfl rfl rfl rfl rfl rfl (by simp [putL]) ?_)))))))))
 refine TO.nl (T.ret (Res.drop ?_))
 refine Res.cell1 (i := 0) Tryd.results51 underlying76 rfl inf76 rfl rfl rfl ?_
 exact ⟨[oI bx1 25 (pC p k)], (Sub.pick [1] rfl), bx1, rfl, rfl⟩
theorem nextF (base : World) [Tab Tryd.prog base] (p : Par) (k : DK) (h : AtP base p k) (gx s : Nat) (hs : s < p.next.length) (v1 : Option Addr) (c1 : Nat) (g1 : (vals k.qs)[s]? = some (.slice v1 p.next[s].length c1)) :
  CallT Tryd.prog base 77 [vI ((s : Nat) : Int), .pointer (aD gx)] [oI gx 25 (pC p k)] (fun v O' => ∃ xb : Nat, v = (.func (.func 94) #[] #[(.pointer (aD xb))]) ∧ O' = [oI xb 23 [(.slice v1 p.next[s].length c1)], oI gx 25 (pC p k)]) := by
 refine CallT.enter func77 rfl ntmps77 rfl ?_
 have hvl := h.rows.1
 refine T.s (T.rg (TO.qa rfl (TO.nl (T.s (T.rg (TO.q (q_fa underlying25 rfl inf22 rfl rfl) (TO.q (q_lb 0 underlying22 rfl rfl rfl rfl) (TO.qm rfl (TO.q (q_ix (i := s) underlying22 inf23 rfl rfl (Sl.o h.outer) hs (hvl ▸ hs)) (TO.q (q_ld underlying23 rfl rfl (Sl.o h.outer) g1) ?_))))))))))
 have hk9 := fun (w1 : World) (hI : Inv base [oI gx 25 (pC p k)] w1) => (haveI := Inv.tab (P := Tryd.prog) hI; valsC w1 v1 c1 p.next[s])
 refine TO.l rfl (l_call ent78 (CallT.op hk9) rfl ?_)
 clear hk9
 rintro vr O' ⟨N, rfl, yb, rfl, rfl⟩
 refine TO.qa rfl (TO.nl (T.ret ?_))
 refine Res.one (.func (.func 94) #[] #[(.pointer (aD yb))]) Tryd.results77 rfl ?_
 exact ⟨_, rfl, rfl⟩
end Go.Proofs.YtnikhiohindggaaDoor

