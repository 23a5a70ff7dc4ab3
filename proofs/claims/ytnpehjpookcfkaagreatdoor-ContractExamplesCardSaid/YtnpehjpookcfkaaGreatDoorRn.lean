/- Contracts of functions of the program (Check, Shelf, Str, Min, Ren, Rn): what each call answers and that it leaves memory as it was. Conditions: those each theorem names. -/
import Derived.Test.YtnpehjpookcfkaaGreatDoorAll
import Derived.Test.YtnpehjpookcfkaaGreatDoorCoreK
import Derived.Shelf.Strconv.Itoa3
import Derived.Test.YtnpehjpookcfkaaGreatDoorProg
set_option linter.unusedSectionVars false
set_option linter.unusedSimpArgs false
set_option linter.unusedVariables false
set_option linter.unnecessarySimpa false
set_option maxHeartbeats 8000000
set_option maxRecDepth 20000
namespace Go.Proofs.YtnpehjpookcfkaaGreatDoor
open Go.Lx Go.RowKit _root_.Go.Proofs.Tryz
theorem varsF (w : World) (v : Int) : PureT Tryz.prog 63 [vI v] w fun x N => x = .bool (decide (0 ≤ v ∧ v ≤ 6)) ∧ N = [] := by
 refine CallT.enter func63 rfl ntmps63 rfl ?_
 refine T.s (T.rg (TO.qa rfl (TO.nl (T.s (T.rg (TO.qm rfl ?_))))))
 by_cases h4 : 0 ≤ v
 ·refine TO.q (QT.toB (q_geq rfl rfl) (decide_eq_true h4)) ?_
  refine TO.qm rfl (TO.gq rfl rfl (q_move rfl) ?_)
  by_cases h7 : v ≤ 6
  ·refine TO.gq rfl rfl (QT.toB (q_leq rfl rfl) (decide_eq_true h7)) ?_
   refine TO.q (q_pick1 rfl rfl) (TO.qa rfl (TO.nl (T.ret ?_)))
   refine Res.one (.bool true) Tryz.results63 rfl ?_
   exact ⟨by simp [h4, h7], rfl⟩
  refine TO.gq rfl rfl (QT.toB (q_leq rfl rfl) (decide_eq_false h7)) (TO.q (q_pick1 rfl rfl) (TO.qa rfl (TO.nl (T.ret ?_))))
  refine Res.one (.bool false) Tryz.results63 rfl ?_
  exact ⟨by simp [h4, h7], rfl⟩
 refine TO.q (QT.toB (q_geq rfl rfl) (decide_eq_false h4)) (TO.qm rfl (TO.pd rfl rfl (TO.pd rfl rfl (TO.q (q_pick0 rfl rfl) (TO.qa rfl (TO.nl (T.ret ?_)))))))
 refine Res.one (.bool false) Tryz.results63 rfl ?_
 exact ⟨by simp [h4], rfl⟩
theorem lettersF (w : World) (v : Int) (h0 : 0 ≤ v) (h6 : v ≤ 6) : PureT Tryz.prog 64 [vI v] w fun x N => x = vI ((2 ^ v.toNat : Nat) : Int) ∧ N = [] := by
 refine CallT.enter func64 rfl ntmps64 rfl ?_
 refine T.s (T.rg (TO.qa rfl (TO.nl (T.s (T.rg (TO.qm rfl (TO.q (q_conv_id underlying3 underlying98 rfl (show IntKind.u64.wrap v = v by unfold IntKind.wrap; simp [IntKind.bits, IntKind.signed]; omega)) (TO.q (q_shl1 (v := v.toNat) rfl (by show Value.int _ v = _; rw [Int.toNat_of_nonneg h0]) (by omega)) (TO.qa rfl (TO.nl (T.ret ?_)))))))))))
 refine Res.one (vI ((2 ^ v.toNat : Nat) : Int)) Tryz.results64 rfl ?_
 exact ⟨rfl, rfl⟩
theorem hasInt (w : World) (b : Option Addr) (c : Nat) (xs : List Int) (x : Int) (h : Sl w b (ints xs)) (hb : xs.length < 9223372036854775807) : PureT Tryz.prog 108 [.slice b xs.length c, vI x] w fun v N => v = .bool (decide (x ∈ xs)) ∧ N = [] := by
 refine CallT.enter func108 rfl ntmps108 rfl ?_
 refine T.s (T.rg (TO.qa rfl (TO.nl (T.s (T.s (T.rg (TO.qa rfl (TO.nl (T.block ?_)))))))))
 refine T.loop (fun (k : Nat) ρ O => O = [] ∧ k ≤ xs.length ∧ x ∉ xs.take k ∧ Heads [(0, (.slice b xs.length c)), (1, vI x), (5, vI (k : Int))] ρ) (fun k => xs.length - k) 0 ?_ ?_
 ·exact ⟨rfl, Nat.zero_le _, by simp, ⟨rfl, rfl, rfl, trivial⟩⟩
 rintro k ρ O ⟨rfl, hk, hm, hH⟩
 obtain ⟨ρ0, rfl⟩ := hH.elim
 clear hH
 refine T.s (T.s (T.rg (TO.qm rfl (TO.qm rfl (TO.q (q_len underlying48 rfl) (TO.q (q_lss rfl rfl) (TO.nl (T.condP rfl (fun hc => ?_) (fun hc => ?_)))))))))
 ·have hlt9 : k < xs.length := by omega
  refine T.skip (T.s (T.block (T.s (T.rg (TO.qm rfl (TO.qm rfl (TO.q (q_ix (i := k) underlying48 inf3 rfl rfl (Sl.o h)) (TO.q (q_ld underlying3 rfl rfl (Sl.o h) ints_get) (TO.qm rfl (TO.q (q_eql rfl rfl) (TO.nl (T.condP rfl (fun hc => ?_) (fun hc => ?_)))))))))))))
  ·refine T.s ?_
   refine T.rg (TO.qa rfl (TO.nl (T.ret ?_)))
   refine Res.one (.bool true) Tryz.results108 rfl ?_
   exact ⟨congrArg Value.bool (decide_eq_true (by rw [← hc]; exact List.getElem_mem _)).symm, rfl⟩
  refine T.skip (T.rg (TO.qm rfl (TO.q (q_inc rfl rfl (by omega)) (TO.qa rfl (TO.nl ?_)))))
  refine ⟨k + 1, by omega, rfl, by omega, ?_, ⟨rfl, rfl, rfl, trivial⟩⟩
  rw [List.take_succ_eq_append_getElem hlt9]
  simp only [List.mem_append, List.mem_singleton, not_or]
  exact ⟨hm, fun e => hc e.symm⟩
 have hge9 : ¬ k < xs.length := by omega
 refine T.exit ?_
 refine T.s (T.rg (TO.qa rfl (TO.nl (T.ret ?_))))
 refine Res.one (.bool false) Tryz.results108 rfl ?_
 exact ⟨congrArg Value.bool (decide_eq_false (by rwa [List.take_of_length_le (by omega)] at hm)).symm, rfl⟩
theorem refCheck (w : World) (d : DFA) (nb fb : Option Addr) (nc fc : Nat) (vs : List Value) (h : DfaAt w d nb vs fb) (hb : d.next.length < 9223372036854775807) (hbr : ∀ r ∈ d.next, r.length < 9223372036854775807) (hbf : d.final.length < 9223372036854775807) :
  PureT Tryz.prog 34 [.agg (dfaCells d nb nc fb fc).toArray] w fun v N => v = vI (checkD d : Int) ∧ N = [] := by
 refine CallT.enter func34 rfl ntmps34 rfl ?_
 have hvl := h.rows.1
 refine T.s (T.rg (TO.l rfl (l_box (v := (.agg #[(vI d.vars), (vI d.start), (.slice nb d.next.length nc), (.slice fb d.final.length fc)])) (cs := [(vI d.vars), (vI d.start), (.slice nb d.next.length nc), (.slice fb d.final.length fc)]) rfl rfl (fun b1 => ?_))))
 refine TO.qa rfl (TO.nl (T.s (T.rg (TO.q (q_fa underlying25 rfl inf22 rfl rfl) (TO.q (q_lb 0 underlying22 rfl rfl rfl rfl) (TO.q (q_len underlying22 rfl) (TO.qa rfl (TO.nl (T.s (T.s (T.rg (TO.q (q_fa underlying25 rfl inf3 rfl rfl) (TO.q (q_lb 0 underlying3 rfl rfl rfl rfl) ?_)))))))))))))
 by_cases hv : 0 ≤ d.vars ∧ d.vars ≤ 6
 ·have hk11 := fun (w1 : World) (hI : Inv w [oI b1 25 [(vI d.vars), (vI d.start), (.slice nb d.next.length nc), (.slice fb d.final.length fc)]] w1) => varsF w1 d.vars
  refine TO.l rfl (l_call ent63 (CallT.op hk11) rfl ?_)
  clear hk11
  rintro v O' ⟨N, rfl, rfl, rfl⟩
  rw [decide_eq_true hv]
  refine TO.q (q_not rfl) (TO.nl (T.cond0 rfl (T.skip (T.s (T.s (T.rg (TO.qm rfl (TO.q (q_eql rfl rfl) (TO.nl (T.condP rfl (fun hc => ?_) (fun hc => ?_)))))))))))
  ·have hlt14 : d.next.length = 0 := by omega
   refine T.s (T.rg (TO.qa rfl (TO.nl (T.ret (Res.drop ?_)))))
   refine Res.one (vI 3) Tryz.results34 rfl ?_
   refine ⟨[], Sub.of (List.nil_sublist _), congrArg (fun z : Nat => Value.int .i64 (z : Int)) (show 3 = checkD d from Eq.symm ?_), rfl⟩
   unfold checkD
   rw [if_neg (by simp; exact hv), if_pos hlt14]
  have hge14 : ¬ d.next.length = 0 := by omega
  refine T.skip (T.s (T.s (T.rg (TO.qm rfl (TO.q (q_gtr rfl rfl) (TO.nl (T.condP rfl (fun hc => ?_) (fun hc => ?_))))))))
  ·have hlt16 : d.next.length > 4096 := by omega
   refine T.s (T.rg (TO.qa rfl (TO.nl (T.ret (Res.drop ?_)))))
   refine Res.one (vI 4) Tryz.results34 rfl ?_
   refine ⟨[], Sub.of (List.nil_sublist _), congrArg (fun z : Nat => Value.int .i64 (z : Int)) (show 4 = checkD d from Eq.symm ?_), rfl⟩
   unfold checkD
   rw [if_neg (by simp; exact hv), if_neg hge14, if_pos hlt16]
  have hge16 : ¬ d.next.length > 4096 := by omega
  refine T.skip (T.s (T.s (T.rg (TO.q (q_fa underlying25 rfl inf23 rfl rfl) (TO.q (q_lb 0 underlying23 rfl rfl rfl rfl) (TO.q (q_len underlying23 rfl) (TO.qm rfl (TO.q (q_neq rfl rfl) (TO.nl (T.condP rfl (fun hc => ?_) (fun hc => ?_)))))))))))
  ·have hlt21 : d.final.length ≠ d.next.length := by omega
   refine T.s (T.rg (TO.qa rfl (TO.nl (T.ret (Res.drop ?_)))))
   refine Res.one (vI 2) Tryz.results34 rfl ?_
   refine ⟨[], Sub.of (List.nil_sublist _), congrArg (fun z : Nat => Value.int .i64 (z : Int)) (show 2 = checkD d from Eq.symm ?_), rfl⟩
   unfold checkD
   rw [if_neg (by simp; exact hv), if_neg hge14, if_neg hge16, if_pos hlt21]
  have hge21 : ¬ d.final.length ≠ d.next.length := by omega
  refine T.skip (T.s (T.s (T.rg (TO.q (q_fa underlying25 rfl inf3 rfl rfl) (TO.q (q_lb 0 underlying3 rfl rfl rfl rfl) ?_)))))
  by_cases hs0 : d.start < 0
  ·refine TO.q (QT.toB (q_lss rfl rfl) (decide_eq_true hs0)) ?_
   refine TO.qm rfl (TO.pd rfl rfl (TO.pd rfl rfl (TO.pd rfl rfl (TO.pd rfl rfl (TO.q (q_pick1 rfl rfl) (TO.nl ?_))))))
   refine T.cond1 rfl ?_
   refine T.s (T.rg (TO.qa rfl (TO.nl (T.ret (Res.drop ?_)))))
   refine Res.one (vI 8) Tryz.results34 rfl ?_
   refine ⟨[], Sub.of (List.nil_sublist _), congrArg (fun z : Nat => Value.int .i64 (z : Int)) (show 8 = checkD d from Eq.symm ?_), rfl⟩
   unfold checkD
   rw [if_neg (by simp; exact hv), if_neg hge14, if_neg hge16, if_neg (by simpa using hge21), if_pos (.inl hs0)]
  refine TO.q (QT.toB (q_lss rfl rfl) (decide_eq_false hs0)) (TO.qm rfl (TO.gq rfl rfl (q_fa underlying25 rfl inf3 rfl rfl) (TO.gq rfl rfl (q_lb 0 underlying3 rfl rfl rfl rfl) (TO.gq rfl rfl (q_move rfl) ?_))))
  by_cases hs1 : (d.next.length : Int) ≤ d.start
  ·refine TO.gq rfl rfl (QT.toB (q_geq rfl rfl) (decide_eq_true hs1)) ?_
   refine TO.q (q_pick0 rfl rfl) (TO.nl ?_)
   refine T.cond1 rfl ?_
   refine T.s (T.rg (TO.qa rfl (TO.nl (T.ret (Res.drop ?_)))))
   refine Res.one (vI 8) Tryz.results34 rfl ?_
   refine ⟨[], Sub.of (List.nil_sublist _), congrArg (fun z : Nat => Value.int .i64 (z : Int)) (show 8 = checkD d from Eq.symm ?_), rfl⟩
   unfold checkD
   rw [if_neg (by simp; exact hv), if_neg hge14, if_neg hge16, if_neg (by simpa using hge21), if_pos (.inr hs1)]
  refine TO.gq rfl rfl (QT.toB (q_geq rfl rfl) (decide_eq_false hs1)) (TO.q (q_pick0 rfl rfl) (TO.nl (T.cond0 rfl (T.skip (T.s (T.s (T.rg (TO.qa rfl (TO.nl (T.block ?_))))))))))
  refine T.loop (fun (k : Nat) ρ O => O = [oI b1 25 [(vI d.vars), (vI d.start), (.slice nb d.next.length nc), (.slice fb d.final.length fc)]] ∧ k ≤ d.next.length ∧ rowsE (2 ^ d.vars.toNat) d.next.length (d.next.drop k) = checkD d ∧ Heads [(0, (.agg #[(vI d.vars), (vI d.start), (.slice nb d.next.length nc), (.slice fb d.final.length fc)])), (1, (.pointer (aD b1))), (3, vI (d.next.length : Int)), (4, vI (k : Int))] ρ) (fun k => d.next.length - k) 0 ?_ ?_
  ·refine ⟨rfl, Nat.zero_le _, ?_, ⟨rfl, rfl, rfl, rfl, trivial⟩⟩
   unfold checkD
   rw [if_neg (by simp; exact hv), if_neg hge14, if_neg hge16, if_neg (by simp; omega), if_neg (by omega)]; rfl
  rintro k ρ O ⟨rfl, hk, hr, hH⟩
  obtain ⟨ρ0, rfl⟩ := hH.elim
  clear hH
  refine T.s (T.s (T.rg (TO.qm rfl (TO.qm rfl (TO.q (q_lss rfl rfl) (TO.nl (T.condP rfl (fun hc => ?_) (fun hc => ?_))))))))
  ·have hlt33 : k < d.next.length := by omega
   obtain ⟨vb1, vc1, g1, s1⟩ := h.rows.get hlt33
   have hrl := hbr _ (List.getElem_mem hlt33)
   refine T.skip (T.s (T.block (T.s (T.s ?_))))
   refine T.draws _ [(0, 0), (1, 0), (2, 0), (3, 0), (4, 0), (5, 0), (6, 0), (7, 0), (8, 1), (9, 0)] mixed (by kernel_rfl) (Sub.of (List.Sublist.refl _)) (fun _ _ _ h => h) ?_
   refine DO.q rfl (q_fa underlying25 rfl inf22 rfl rfl) (DO.q rfl (q_lb 0 underlying22 rfl rfl rfl rfl) (DO.q rfl (q_move rfl) (DO.q rfl (q_ix (i := k) underlying22 inf48 rfl rfl (Sl.o h.outer)) (DO.q rfl (q_ld underlying48 rfl rfl (Sl.o h.outer) g1) (DO.q rfl (q_len underlying48 rfl) (DO.q rfl (q_fa underlying25 rfl inf3 rfl rfl) (DO.q rfl (q_lb 0 underlying3 rfl rfl rfl rfl) ?_)))))))
   have hk44 := fun (w1 : World) (hI : Inv w [oI b1 25 [(vI d.vars), (vI d.start), (.slice nb d.next.length nc), (.slice fb d.final.length fc)]] w1) => lettersF w1 d.vars hv.1 hv.2
   refine DO.loud rfl rfl (l_call ent64 (CallT.op hk44) rfl ?_)
   clear hk44
   rintro v O' ⟨N, rfl, rfl, rfl⟩
   refine ⟨Sub.pick [0] rfl, ?_⟩
   refine DO.q rfl (q_neq rfl rfl) ?_
   refine DO.done ?_
   refine T.condP rfl (fun hc => ?_) (fun hc => ?_)
   ·have hlt45 : d.next[k].length ≠ 2 ^ d.vars.toNat := by omega
    refine T.s (T.rg (TO.qa rfl (TO.nl (T.ret (Res.drop ?_)))))
    refine Res.one (vI 2) Tryz.results34 rfl ?_
    refine ⟨[], Sub.of (List.nil_sublist _), congrArg (fun z : Nat => Value.int .i64 (z : Int)) (show 2 = checkD d from Eq.symm ?_), rfl⟩
    rw [← hr, rowsE_at hlt33, if_pos hlt45]
   have hge45 : ¬ d.next[k].length ≠ 2 ^ d.vars.toNat := by omega
   refine T.skip (T.s (T.rg (TO.qa rfl (TO.nl (T.block ?_)))))
   refine T.loop (fun (j : Nat) ρ O => O = [oI b1 25 [(vI d.vars), (vI d.start), (.slice nb d.next.length nc), (.slice fb d.final.length fc)]] ∧ j ≤ d.next[k].length ∧ rowOk d.next.length (d.next[k].take j) = true ∧ Heads [(0, (.agg #[(vI d.vars), (vI d.start), (.slice nb d.next.length nc), (.slice fb d.final.length fc)])), (1, (.pointer (aD b1))), (3, vI (d.next.length : Int)), (4, vI (k : Int)), (5, vI (j : Int))] ρ) (fun j => d.next[k].length - j) 0 ?_ ?_
   ·exact ⟨rfl, Nat.zero_le _, rfl, (.of rfl)⟩
   rintro j ρ O ⟨rfl, hj, hok, hH⟩
   obtain ⟨ρ0, rfl⟩ := hH.elim
   clear hH
   refine T.s (T.s (T.rg (TO.qm rfl (TO.q (q_fa underlying25 rfl inf22 rfl rfl) (TO.q (q_lb 0 underlying22 rfl rfl rfl rfl) (TO.qm rfl (TO.q (q_ix (i := k) underlying22 inf48 rfl rfl (Sl.o h.outer)) (TO.q (q_ld underlying48 rfl rfl (Sl.o h.outer) g1) (TO.q (q_len underlying48 rfl) (TO.q (q_lss rfl rfl) (TO.nl (T.condP rfl (fun hc => ?_) (fun hc => ?_)))))))))))))
   ·have hlt53 : j < d.next[k].length := by omega
    refine T.skip (T.s (T.block (T.s (T.rg (TO.q (q_fa underlying25 rfl inf22 rfl rfl) (TO.q (q_lb 0 underlying22 rfl rfl rfl rfl) (TO.qm rfl (TO.q (q_ix (i := k) underlying22 inf48 rfl rfl (Sl.o h.outer)) (TO.q (q_ld underlying48 rfl rfl (Sl.o h.outer) g1) (TO.qm rfl (TO.q (q_ix (i := j) underlying48 inf3 rfl rfl (Sl.o s1)) (TO.q (q_ld underlying3 rfl rfl (Sl.o s1) ints_get) ?_))))))))))))
    by_cases he0 : d.next[k][j] < 0
    ·refine TO.q (QT.toB (q_lss rfl rfl) (decide_eq_true he0)) ?_
     refine TO.qm rfl (TO.pd rfl rfl (TO.pd rfl rfl (TO.pd rfl rfl (TO.pd rfl rfl (TO.pd rfl rfl (TO.pd rfl rfl (TO.pd rfl rfl ?_)))))))
     refine TO.pd rfl rfl (TO.pd rfl rfl (TO.pd rfl rfl (TO.q (q_pick1 rfl rfl) (TO.nl ?_))))
     refine T.cond1 rfl ?_
     refine T.s (T.rg (TO.qa rfl (TO.nl (T.ret (Res.drop ?_)))))
     refine Res.one (vI 8) Tryz.results34 rfl ?_
     refine ⟨[], Sub.of (List.nil_sublist _), congrArg (fun z : Nat => Value.int .i64 (z : Int)) (show 8 = checkD d from Eq.symm ?_), rfl⟩
     rw [← hr, rowsE_at hlt33, if_neg (by simpa using hge45), if_neg (rowOk_bad hlt53 (.inl he0))]
    refine TO.q (QT.toB (q_lss rfl rfl) (decide_eq_false he0)) (TO.qm rfl (TO.gq rfl rfl (q_fa underlying25 rfl inf22 rfl rfl) (TO.gq rfl rfl (q_lb 0 underlying22 rfl rfl rfl rfl) (TO.gq rfl rfl (q_move rfl) (TO.gq rfl rfl (q_ix (i := k) underlying22 inf48 rfl rfl (Sl.o h.outer)) (TO.gq rfl rfl (q_ld underlying48 rfl rfl (Sl.o h.outer) g1) (TO.gq rfl rfl (q_move rfl) (TO.gq rfl rfl (q_ix (i := j) underlying48 inf3 rfl rfl (Sl.o s1)) ?_))))))))
    refine TO.gq rfl rfl (q_ld underlying3 rfl rfl (Sl.o s1) ints_get) (TO.gq rfl rfl (q_move rfl) ?_)
    by_cases he1 : (d.next.length : Int) ≤ d.next[k][j]
    ·refine TO.gq rfl rfl (QT.toB (q_geq rfl rfl) (decide_eq_true he1)) ?_
     refine TO.q (q_pick0 rfl rfl) (TO.nl ?_)
     refine T.cond1 rfl ?_
     refine T.s (T.rg (TO.qa rfl (TO.nl (T.ret (Res.drop ?_)))))
     refine Res.one (vI 8) Tryz.results34 rfl ?_
     refine ⟨[], Sub.of (List.nil_sublist _), congrArg (fun z : Nat => Value.int .i64 (z : Int)) (show 8 = checkD d from Eq.symm ?_), rfl⟩
     rw [← hr, rowsE_at hlt33, if_neg (by simpa using hge45), if_neg (rowOk_bad hlt53 (.inr he1))]
    refine TO.gq rfl rfl (QT.toB (q_geq rfl rfl) (decide_eq_false he1)) (TO.q (q_pick0 rfl rfl) (TO.nl (T.cond0 rfl (T.skip (T.rg (TO.qm rfl (TO.q (q_inc rfl rfl (by omega)) (TO.qa rfl (TO.nl ?_)))))))))
    exact ⟨j + 1, by omega, rfl, by omega, rowOk_step hlt53 hok he0 he1, (.of rfl)⟩
   have hge53 : ¬ j < d.next[k].length := by omega
   refine T.exit ?_
   refine T.rg (TO.qm rfl (TO.q (q_inc rfl rfl (by omega)) (TO.qa rfl (TO.nl ?_))))
   refine ⟨k + 1, by omega, rfl, by omega, ?_, ⟨rfl, rfl, rfl, rfl, trivial⟩⟩
   rw [← hr, rowsE_at hlt33, if_neg (by simpa using hge45), if_pos (rowOk_full (by omega) hok)]
  have hge33 : ¬ k < d.next.length := by omega
  refine T.exit ?_
  refine T.s (T.rg (TO.qa rfl (TO.nl (T.ret (Res.drop ?_)))))
  refine Res.one (vI 0) Tryz.results34 rfl ?_
  refine ⟨[], Sub.of (List.nil_sublist _), congrArg (fun z : Nat => Value.int .i64 (z : Int)) (show 0 = checkD d from Eq.symm ?_), rfl⟩
  rw [← hr, rowsE_end (by omega)]
 have hk11 := fun (w1 : World) (hI : Inv w [oI b1 25 [(vI d.vars), (vI d.start), (.slice nb d.next.length nc), (.slice fb d.final.length fc)]] w1) => varsF w1 d.vars
 refine TO.l rfl (l_call ent63 (CallT.op hk11) rfl ?_)
 clear hk11
 rintro v O' ⟨N, rfl, rfl, rfl⟩
 rw [decide_eq_false hv]
 refine TO.q (q_not rfl) (TO.nl ?_)
 refine T.cond1 rfl ?_
 refine T.s (T.rg (TO.qa rfl (TO.nl (T.ret (Res.drop ?_)))))
 refine Res.one (vI 7) Tryz.results34 rfl ?_
 refine ⟨[], Sub.of (List.nil_sublist _), congrArg (fun z : Nat => Value.int .i64 (z : Int)) (show 7 = checkD d from Eq.symm ?_), rfl⟩
 unfold checkD
 rw [if_pos hv]
theorem slicesMin (w : World) (b : Option Addr) (c : Nat) (xs : List Int) (h : Sl w b (ints xs)) (h0 : 0 < xs.length) (hb : xs.length < 9223372036854775807) : PureT Tryz.prog 61 [.slice b xs.length c] w fun v N => (∃ m, v = vI m ∧ m ∈ xs ∧ ∀ x ∈ xs, m ≤ x) ∧ N = [] := by
 refine CallT.enter func61 rfl ntmps61 rfl ?_
 refine T.s (T.rg (TO.qa rfl (TO.nl (T.s (T.s (T.rg (TO.qm rfl (TO.q (q_len underlying48 rfl) (TO.q (q_lss rfl rfl) (TO.nl (T.condP rfl (fun hc => ?_) (fun hc => ?_))))))))))))
 ·exact absurd hc (by omega)
 have hge7 : ¬ xs.length < 1 := by omega
 refine T.skip (T.s (T.rg (TO.qm rfl (TO.q (q_ix (i := 0) underlying48 inf3 rfl rfl (Sl.o h)) (TO.q (q_ld underlying3 rfl rfl (Sl.o h) ints_get) (TO.qa rfl (TO.nl (T.s (T.s (T.rg (TO.qa rfl (TO.nl (T.block ?_)))))))))))))
 refine T.loop (fun (k : Nat) ρ O => ∃ (m : Int), O = [] ∧ 1 ≤ k ∧ k ≤ xs.length ∧ m ∈ xs.take k ∧ (∀ x ∈ xs.take k, m ≤ x) ∧ Heads [(0, (.slice b xs.length c)), (2, vI 0), (3, vI m), (4, vI (k : Int))] ρ) (fun k => xs.length - k) 1 ?_ ?_
 ·refine ⟨xs[0], rfl, Nat.le_refl _, h0, ?_, ?_, ⟨rfl, rfl, rfl, rfl, trivial⟩⟩
  ·show xs[0] ∈ xs.take (0 + 1)
   rw [List.take_succ_eq_append_getElem h0]; simp
  ·show ∀ x ∈ xs.take (0 + 1), _
   rw [List.take_succ_eq_append_getElem h0]; simp
 rintro k ρ O ⟨m, rfl, hk1, hk, hm, hall, hH⟩
 obtain ⟨ρ0, rfl⟩ := hH.elim
 clear hH
 refine T.s (T.s (T.rg (TO.qm rfl (TO.qm rfl (TO.q (q_len underlying48 rfl) (TO.q (q_lss rfl rfl) (TO.nl (T.condP rfl (fun hc => ?_) (fun hc => ?_)))))))))
 ·have hlt15 : k < xs.length := by omega
  refine T.skip (T.s (T.block (T.rg (TO.qm rfl (TO.qm rfl (TO.qm rfl (TO.q (q_ix (i := k) underlying48 inf3 rfl rfl (Sl.o h)) (TO.q (q_ld underlying3 rfl rfl (Sl.o h) ints_get) (TO.q (q_min rfl rfl) (TO.qa rfl (TO.nl (T.rg (TO.qm rfl (TO.q (q_inc rfl rfl (by omega)) (TO.qa rfl (TO.nl ?_))))))))))))))))
  refine ⟨k + 1, by omega, if xs[k] < m then xs[k] else m, rfl, by omega, by omega, ?_, ?_, ⟨rfl, rfl, rfl, rfl, trivial⟩⟩
  ·rw [List.take_succ_eq_append_getElem hlt15]; split
   ·exact List.mem_append_right _ (List.mem_singleton.2 rfl)
   ·exact List.mem_append_left _ hm
  ·rw [List.take_succ_eq_append_getElem hlt15]
   intro x hx
   rcases List.mem_append.1 hx with hx | hx
   ·have := hall x hx; split <;> omega
   ·rw [List.mem_singleton] at hx; subst hx; split <;> omega
 have hge15 : ¬ k < xs.length := by omega
 refine T.exit ?_
 refine T.s (T.rg (TO.qm rfl (TO.qa rfl (TO.nl (T.ret ?_)))))
 refine Res.one (vI m) Tryz.results61 rfl ?_
 rw [List.take_of_length_le (by omega)] at hm hall
 exact ⟨⟨m, rfl, hm, hall⟩, rfl⟩
theorem slicesMax (w : World) (b : Option Addr) (c : Nat) (xs : List Int) (h : Sl w b (ints xs)) (h0 : 0 < xs.length) (hb : xs.length < 9223372036854775807) : PureT Tryz.prog 62 [.slice b xs.length c] w fun v N => (∃ m, v = vI m ∧ m ∈ xs ∧ ∀ x ∈ xs, x ≤ m) ∧ N = [] := by
 refine CallT.enter func62 rfl ntmps62 rfl ?_
 refine T.s (T.rg (TO.qa rfl (TO.nl (T.s (T.s (T.rg (TO.qm rfl (TO.q (q_len underlying48 rfl) (TO.q (q_lss rfl rfl) (TO.nl (T.condP rfl (fun hc => ?_) (fun hc => ?_))))))))))))
 ·exact absurd hc (by omega)
 have hge7 : ¬ xs.length < 1 := by omega
 refine T.skip (T.s (T.rg (TO.qm rfl (TO.q (q_ix (i := 0) underlying48 inf3 rfl rfl (Sl.o h)) (TO.q (q_ld underlying3 rfl rfl (Sl.o h) ints_get) (TO.qa rfl (TO.nl (T.s (T.s (T.rg (TO.qa rfl (TO.nl (T.block ?_)))))))))))))
 refine T.loop (fun (k : Nat) ρ O => ∃ (m : Int), O = [] ∧ 1 ≤ k ∧ k ≤ xs.length ∧ m ∈ xs.take k ∧ (∀ x ∈ xs.take k, x ≤ m) ∧ Heads [(0, (.slice b xs.length c)), (2, vI 0), (3, vI m), (4, vI (k : Int))] ρ) (fun k => xs.length - k) 1 ?_ ?_
 ·refine ⟨xs[0], rfl, Nat.le_refl _, h0, ?_, ?_, ⟨rfl, rfl, rfl, rfl, trivial⟩⟩
  ·show xs[0] ∈ xs.take (0 + 1)
   rw [List.take_succ_eq_append_getElem h0]; simp
  ·show ∀ x ∈ xs.take (0 + 1), _
   rw [List.take_succ_eq_append_getElem h0]; simp
 rintro k ρ O ⟨m, rfl, hk1, hk, hm, hall, hH⟩
 obtain ⟨ρ0, rfl⟩ := hH.elim
 clear hH
 refine T.s (T.s (T.rg (TO.qm rfl (TO.qm rfl (TO.q (q_len underlying48 rfl) (TO.q (q_lss rfl rfl) (TO.nl (T.condP rfl (fun hc => ?_) (fun hc => ?_)))))))))
 ·have hlt15 : k < xs.length := by omega
  refine T.skip (T.s (T.block (T.rg (TO.qm rfl (TO.qm rfl (TO.qm rfl (TO.q (q_ix (i := k) underlying48 inf3 rfl rfl (Sl.o h)) (TO.q (q_ld underlying3 rfl rfl (Sl.o h) ints_get) (TO.q (q_max rfl rfl) (TO.qa rfl (TO.nl (T.rg (TO.qm rfl (TO.q (q_inc rfl rfl (by omega)) (TO.qa rfl (TO.nl ?_))))))))))))))))
  refine ⟨k + 1, by omega, if xs[k] > m then xs[k] else m, rfl, by omega, by omega, ?_, ?_, ⟨rfl, rfl, rfl, rfl, trivial⟩⟩
  ·rw [List.take_succ_eq_append_getElem hlt15]; split
   ·exact List.mem_append_right _ (List.mem_singleton.2 rfl)
   ·exact List.mem_append_left _ hm
  ·rw [List.take_succ_eq_append_getElem hlt15]
   intro x hx
   rcases List.mem_append.1 hx with hx | hx
   ·have := hall x hx; split <;> omega
   ·rw [List.mem_singleton] at hx; subst hx; split <;> omega
 have hge15 : ¬ k < xs.length := by omega
 refine T.exit ?_
 refine T.s (T.rg (TO.qm rfl (TO.qa rfl (TO.nl (T.ret ?_)))))
 refine Res.one (vI m) Tryz.results62 rfl ?_
 rw [List.take_of_length_le (by omega)] at hm hall
 exact ⟨⟨m, rfl, hm, hall⟩, rfl⟩
theorem subsetCheck (w : World) (d : DFA) (nb fb : Option Addr) (nc fc : Nat) (vs : List Value) (h : DfaAt w d nb vs fb) (hb : d.next.length < 9223372036854775807) (hbr : ∀ r ∈ d.next, r.length < 9223372036854775807) (hbf : d.final.length < 9223372036854775807) :
  PureT Tryz.prog 33 [.agg (dfaCells d nb nc fb fc).toArray] w fun v N => v = vI (checkD d : Int) ∧ N = [] := by
 refine CallT.enter func33 rfl ntmps33 rfl ?_
 have hvl := h.rows.1
 refine T.s (T.rg (TO.l rfl (l_box (v := (.agg #[(vI d.vars), (vI d.start), (.slice nb d.next.length nc), (.slice fb d.final.length fc)])) (cs := [(vI d.vars), (vI d.start), (.slice nb d.next.length nc), (.slice fb d.final.length fc)]) rfl rfl (fun b1 => ?_))))
 refine TO.qa rfl (TO.nl (T.s (T.rg (TO.q (q_fa underlying25 rfl inf22 rfl rfl) (TO.q (q_lb 0 underlying22 rfl rfl rfl rfl) (TO.q (q_len underlying22 rfl) (TO.qa rfl (TO.nl (T.s (T.block (T.s (T.rg (TO.q (q_fa underlying25 rfl inf3 rfl rfl) (TO.q (q_lb 0 underlying3 rfl rfl rfl rfl) ?_))))))))))))))
 by_cases hv0 : d.vars < 0
 ·refine TO.q (QT.toB (q_lss rfl rfl) (decide_eq_true hv0)) ?_
  refine TO.qm rfl (TO.pd rfl rfl (TO.pd rfl rfl (TO.pd rfl rfl (TO.q (q_pick1 rfl rfl) (TO.qa rfl (TO.nl ?_))))))
  refine T.cond1 rfl ?_
  refine T.s (T.rg (TO.qa rfl (TO.nl (T.ret (Res.drop ?_)))))
  refine Res.one (vI 7) Tryz.results33 rfl ?_
  refine ⟨[], Sub.of (List.nil_sublist _), congrArg (fun z : Nat => Value.int .i64 (z : Int)) (show 7 = checkD d from Eq.symm ?_), rfl⟩
  unfold checkD
  rw [if_pos (by omega)]
 refine TO.q (QT.toB (q_lss rfl rfl) (decide_eq_false hv0)) (TO.qm rfl (TO.gq rfl rfl (q_fa underlying25 rfl inf3 rfl rfl) (TO.gq rfl rfl (q_lb 0 underlying3 rfl rfl rfl rfl) ?_)))
 by_cases hv6 : 6 < d.vars
 ·refine TO.gq rfl rfl (QT.toB (q_gtr rfl rfl) (decide_eq_true hv6)) ?_
  refine TO.q (q_pick0 rfl rfl) (TO.qa rfl (TO.nl ?_))
  refine T.cond1 rfl ?_
  refine T.s (T.rg (TO.qa rfl (TO.nl (T.ret (Res.drop ?_)))))
  refine Res.one (vI 7) Tryz.results33 rfl ?_
  refine ⟨[], Sub.of (List.nil_sublist _), congrArg (fun z : Nat => Value.int .i64 (z : Int)) (show 7 = checkD d from Eq.symm ?_), rfl⟩
  unfold checkD
  rw [if_pos (by omega)]
 refine TO.gq rfl rfl (QT.toB (q_gtr rfl rfl) (decide_eq_false hv6)) (TO.q (q_pick0 rfl rfl) (TO.qa rfl (TO.nl (T.cond0 rfl (T.s (T.rg (TO.qm rfl (TO.q (q_eql rfl rfl) (TO.qa rfl (TO.nl (T.condP rfl (fun hc => ?_) (fun hc => ?_))))))))))))
 ·have hlt18 : d.next.length = 0 := by omega
  refine T.s (T.rg (TO.qa rfl (TO.nl (T.ret (Res.drop ?_)))))
  refine Res.one (vI 3) Tryz.results33 rfl ?_
  refine ⟨[], Sub.of (List.nil_sublist _), congrArg (fun z : Nat => Value.int .i64 (z : Int)) (show 3 = checkD d from Eq.symm ?_), rfl⟩
  unfold checkD
  rw [if_neg (by simp; omega), if_pos hlt18]
 have hge18 : ¬ d.next.length = 0 := by omega
 refine T.s (T.rg (TO.qm rfl (TO.q (q_gtr rfl rfl) (TO.qa rfl (TO.nl (T.condP rfl (fun hc => ?_) (fun hc => ?_)))))))
 ·have hlt21 : d.next.length > 4096 := by omega
  refine T.s (T.rg (TO.qa rfl (TO.nl (T.ret (Res.drop ?_)))))
  refine Res.one (vI 4) Tryz.results33 rfl ?_
  refine ⟨[], Sub.of (List.nil_sublist _), congrArg (fun z : Nat => Value.int .i64 (z : Int)) (show 4 = checkD d from Eq.symm ?_), rfl⟩
  unfold checkD
  rw [if_neg (by simp; omega), if_neg hge18, if_pos hlt21]
 have hge21 : ¬ d.next.length > 4096 := by omega
 refine T.s (T.rg (TO.q (q_fa underlying25 rfl inf23 rfl rfl) (TO.q (q_lb 0 underlying23 rfl rfl rfl rfl) (TO.q (q_len underlying23 rfl) (TO.qm rfl (TO.q (q_neq rfl rfl) (TO.qa rfl (TO.nl (T.condP rfl (fun hc => ?_) (fun hc => ?_))))))))))
 ·have hlt24 : d.final.length ≠ d.next.length := by omega
  refine T.s (T.rg (TO.qa rfl (TO.nl (T.ret (Res.drop ?_)))))
  refine Res.one (vI 2) Tryz.results33 rfl ?_
  refine ⟨[], Sub.of (List.nil_sublist _), congrArg (fun z : Nat => Value.int .i64 (z : Int)) (show 2 = checkD d from Eq.symm ?_), rfl⟩
  unfold checkD
  rw [if_neg (by simp; omega), if_neg hge18, if_neg hge21, if_pos hlt24]
 have hge24 : ¬ d.final.length ≠ d.next.length := by omega
 refine T.s (T.rg (TO.q (q_fa underlying25 rfl inf3 rfl rfl) (TO.q (q_lb 0 underlying3 rfl rfl rfl rfl) ?_)))
 by_cases hs0 : d.start < 0
 ·refine TO.q (QT.toB (q_lss rfl rfl) (decide_eq_true hs0)) ?_
  refine TO.qm rfl (TO.pd rfl rfl (TO.pd rfl rfl (TO.pd rfl rfl (TO.pd rfl rfl (TO.q (q_pick1 rfl rfl) (TO.qa rfl (TO.nl ?_)))))))
  refine T.cond1 rfl ?_
  refine T.s (T.rg (TO.qa rfl (TO.nl (T.ret (Res.drop ?_)))))
  refine Res.one (vI 8) Tryz.results33 rfl ?_
  refine ⟨[], Sub.of (List.nil_sublist _), congrArg (fun z : Nat => Value.int .i64 (z : Int)) (show 8 = checkD d from Eq.symm ?_), rfl⟩
  unfold checkD
  rw [if_neg (by simp; omega), if_neg hge18, if_neg hge21, if_neg (by simpa using hge24), if_pos (by omega)]
 refine TO.q (QT.toB (q_lss rfl rfl) (decide_eq_false hs0)) (TO.qm rfl (TO.gq rfl rfl (q_fa underlying25 rfl inf3 rfl rfl) (TO.gq rfl rfl (q_lb 0 underlying3 rfl rfl rfl rfl) (TO.gq rfl rfl (q_move rfl) ?_))))
 by_cases hs1 : (d.next.length : Int) ≤ d.start
 ·refine TO.gq rfl rfl (QT.toB (q_geq rfl rfl) (decide_eq_true hs1)) ?_
  refine TO.q (q_pick0 rfl rfl) (TO.qa rfl (TO.nl ?_))
  refine T.cond1 rfl ?_
  refine T.s (T.rg (TO.qa rfl (TO.nl (T.ret (Res.drop ?_)))))
  refine Res.one (vI 8) Tryz.results33 rfl ?_
  refine ⟨[], Sub.of (List.nil_sublist _), congrArg (fun z : Nat => Value.int .i64 (z : Int)) (show 8 = checkD d from Eq.symm ?_), rfl⟩
  unfold checkD
  rw [if_neg (by simp; omega), if_neg hge18, if_neg hge21, if_neg (by simpa using hge24), if_pos (by omega)]
 refine TO.gq rfl rfl (QT.toB (q_geq rfl rfl) (decide_eq_false hs1)) (TO.q (q_pick0 rfl rfl) (TO.qa rfl (TO.nl (T.cond0 rfl (T.skip (T.s (T.s (T.rg (TO.q (q_fa underlying25 rfl inf22 rfl rfl) (TO.q (q_lb 0 underlying22 rfl rfl rfl rfl) (TO.q (q_len underlying22 rfl) (TO.qm rfl (TO.nl (T.block ?_))))))))))))))
 refine T.loop (fun (k : Nat) ρ O => O = [oI b1 25 [(vI d.vars), (vI d.start), (.slice nb d.next.length nc), (.slice fb d.final.length fc)]] ∧ k ≤ d.next.length ∧ rowsE (2 ^ d.vars.toNat) d.next.length (d.next.drop k) = checkD d ∧ Heads [(0, (.agg #[(vI d.vars), (vI d.start), (.slice nb d.next.length nc), (.slice fb d.final.length fc)])), (1, (.pointer (aD b1))), (3, vI (d.next.length : Int)), (9, .bool false), (18, .bool (decide ((d.next.length : Int) = 0))), (21, .bool (decide ((d.next.length : Int) > 4096))), (24, .bool (decide ((d.final.length : Int) ≠ (d.next.length : Int)))), (30, .bool false), (41, (.slice nb d.next.length nc)), (42, vI (d.next.length : Int)), (43, vI (k : Int))] ρ) (fun k => d.next.length - k) 0 ?_ ?_
 ·refine ⟨rfl, Nat.zero_le _, ?_, (.of rfl)⟩
  unfold checkD
  rw [if_neg (by simp; omega), if_neg hge18, if_neg hge21, if_neg (by simpa using hge24), if_neg (by omega)]; rfl
 rintro k ρ O ⟨rfl, hk, hr, hH⟩
 obtain ⟨ρ0, rfl⟩ := hH.elim
 clear hH
 refine T.s (T.rg (TO.q (q_lss rfl rfl) (TO.nl (T.s (T.condP rfl (fun hc => ?_) (fun hc => ?_))))))
 ·have hlt44 : k < d.next.length := by omega
  obtain ⟨vb1, vc1, g1, s1⟩ := h.rows.get hlt44
  have hrl := hbr _ (List.getElem_mem hlt44)
  refine T.skip (T.s (T.block (T.s (T.rg (TO.q (q_ix (i := k) underlying22 inf48 rfl rfl (Sl.o h.outer)) (TO.q (q_ld underlying48 rfl rfl (Sl.o h.outer) g1) (TO.qa rfl (TO.nl (T.s (T.s (T.rg (TO.qm rfl (TO.q (q_len underlying48 rfl) (TO.q (q_fa underlying25 rfl inf3 rfl rfl) (TO.q (q_lb 0 underlying3 rfl rfl rfl rfl) (TO.q (q_shl1 (v := d.vars.toNat) rfl (by show Value.int _ d.vars = _; rw [Int.toNat_of_nonneg (by omega)]) (by omega)) (TO.q (q_neq rfl rfl) (TO.nl (T.condP rfl (fun hc => ?_) (fun hc => ?_))))))))))))))))))))
  ·have hlt52 : d.next[k].length ≠ 2 ^ d.vars.toNat := by omega
   refine T.s (T.rg (TO.qa rfl (TO.nl (T.ret (Res.drop ?_)))))
   refine Res.one (vI 2) Tryz.results33 rfl ?_
   refine ⟨[], Sub.of (List.nil_sublist _), congrArg (fun z : Nat => Value.int .i64 (z : Int)) (show 2 = checkD d from Eq.symm ?_), rfl⟩
   rw [← hr, rowsE_at hlt44, if_pos hlt52]
  have hge52 : ¬ d.next[k].length ≠ 2 ^ d.vars.toNat := by omega
  have hrpos : 0 < d.next[k].length := by
   have := Nat.pow_pos (n := d.vars.toNat) (show 0 < 2 by omega)
   omega
  refine T.skip (T.s (T.rg (TO.qm rfl ?_)))
  have hk54 := fun (w1 : World) (hI : Inv w [oI b1 25 [(vI d.vars), (vI d.start), (.slice nb d.next.length nc), (.slice fb d.final.length fc)]] w1) => slicesMin w1 vb1 vc1 d.next[k] (hI.sl s1) hrpos hrl
  refine TO.l rfl (l_call ent61 (CallT.op hk54) rfl ?_)
  clear hk54
  rintro v O' ⟨N, rfl, ⟨m1, rfl, hm1, hall1⟩, rfl⟩
  by_cases he0 : m1 < 0
  ·refine TO.q (QT.toB (q_lss rfl rfl) (decide_eq_true he0)) ?_
   refine TO.qm rfl (TO.pd rfl rfl (TO.pd rfl rfl (TO.pd rfl rfl (TO.pd rfl rfl (TO.q (q_pick1 rfl rfl) (TO.nl ?_))))))
   refine T.cond1 rfl ?_
   refine T.s (T.rg (TO.qa rfl (TO.nl (T.ret (Res.drop ?_)))))
   refine Res.one (vI 8) Tryz.results33 rfl ?_
   refine ⟨[], Sub.of (List.nil_sublist _), congrArg (fun z : Nat => Value.int .i64 (z : Int)) (show 8 = checkD d from Eq.symm ?_), rfl⟩
   rw [← hr, rowsE_at hlt44, if_neg (by simpa using hge52), if_neg ?_]
   intro hh
   simp only [rowOk, List.all_eq_true, Bool.and_eq_true, decide_eq_true_eq] at hh
   have := hh _ hm1; omega
  refine TO.q (QT.toB (q_lss rfl rfl) (decide_eq_false he0)) (TO.qm rfl (TO.gq rfl rfl (q_move rfl) ?_))
  have hk58 := fun (w1 : World) (hI : Inv w [oI b1 25 [(vI d.vars), (vI d.start), (.slice nb d.next.length nc), (.slice fb d.final.length fc)]] w1) => slicesMax w1 vb1 vc1 d.next[k] (hI.sl s1) hrpos hrl
  refine TO.gd rfl rfl rfl (l_call ent62 (CallT.op hk58) rfl ?_)
  clear hk58
  rintro v O' ⟨N, rfl, ⟨m2, rfl, hm2, hall2⟩, rfl⟩
  refine TO.gq rfl rfl (q_move rfl) ?_
  by_cases he1 : (d.next.length : Int) ≤ m2
  ·refine TO.gq rfl rfl (QT.toB (q_geq rfl rfl) (decide_eq_true he1)) ?_
   refine TO.q (q_pick0 rfl rfl) (TO.nl ?_)
   refine T.cond1 rfl ?_
   refine T.s (T.rg (TO.qa rfl (TO.nl (T.ret (Res.drop ?_)))))
   refine Res.one (vI 8) Tryz.results33 rfl ?_
   refine ⟨[], Sub.of (List.nil_sublist _), congrArg (fun z : Nat => Value.int .i64 (z : Int)) (show 8 = checkD d from Eq.symm ?_), rfl⟩
   rw [← hr, rowsE_at hlt44, if_neg (by simpa using hge52), if_neg ?_]
   intro hh
   simp only [rowOk, List.all_eq_true, Bool.and_eq_true, decide_eq_true_eq] at hh
   have := hh _ hm2; omega
  refine TO.gq rfl rfl (QT.toB (q_geq rfl rfl) (decide_eq_false he1)) (TO.q (q_pick0 rfl rfl) (TO.nl (T.cond0 rfl (T.skip (T.rg (TO.q (q_inc rfl rfl (by omega)) (TO.qm rfl (TO.nl ?_))))))))
  refine ⟨k + 1, by omega, rfl, by omega, ?_, (.of rfl)⟩
  rw [← hr, rowsE_at hlt44, if_neg (by simpa using hge52), if_pos ?_]
  simp only [rowOk, List.all_eq_true, Bool.and_eq_true, decide_eq_true_eq]
  intro x hx
  have := hall1 x hx; have := hall2 x hx; omega
 have hge44 : ¬ k < d.next.length := by omega
 refine T.exit ?_
 refine T.s (T.rg (TO.qa rfl (TO.nl (T.ret (Res.drop ?_)))))
 refine Res.one (vI 0) Tryz.results33 rfl ?_
 refine ⟨[], Sub.of (List.nil_sublist _), congrArg (fun z : Nat => Value.int .i64 (z : Int)) (show 0 = checkD d from Eq.symm ?_), rfl⟩
 rw [← hr, rowsE_end (by omega)]
end Go.Proofs.YtnpehjpookcfkaaGreatDoor


namespace Go.Proofs
open Go.Shelf
def Tryz.lays283_ren : Go.Shelf.Ren := ⟨fun | 283 => 119 | n => n, fun | 3 => 3 | 9 => 9 | 4 => 4 | n => n, fun | n => n⟩
theorem Tryz.lays283 : Go.Proofs.Lays.n283 Tryz.prog Tryz.lays283_ren := {
 mixed := by kernel_rfl
 f283 := Tryz.func119.trans (congrArg some (by kernel_rfl))
 t3 := Tryz.underlying3
 a3 := Tryz.isAgg3
 z3 := Tryz.sizeOf3
 v3 := Tryz.zeroValue3
 t4 := Tryz.underlying4
 a4 := Tryz.isAgg4
 z4 := Tryz.sizeOf4
 v4 := Tryz.zeroValue4
 t9 := Tryz.underlying9
 a9 := Tryz.isAgg9
 z9 := Tryz.sizeOf9
 v9 := Tryz.zeroValue9 }
open Go.RowKit Go.Sort Go.Lib in
theorem Tryz.internal_strconv_small (i : Nat) (h : i < 100) (w : World) :
  Calls Tryz.prog 119 #[.int .i64 i] w fun e w' => e = .returned (.string ⟨(Lib.decDigits i).toArray⟩) ∧ w' = w := Any.internal_strconv_small Tryz.lays283 i h w
def Tryz.laysM284_ren : Go.Shelf.Ren := ⟨fun | 284 => 120 | 129 => 125 | 317 => 124 | 318 => 126 | n => n, fun | 53 => 146 | 3 => 3 | 212 => 153 | 0 => 0 | 4 => 4 | 46 => 98 | 5 => 5 | 9 => 9 | n => n, fun | 17 => 0 | n => n⟩
theorem Tryz.laysM284 : Go.Proofs.LaysM.n284 Tryz.prog Tryz.laysM284_ren := {
 mixed := by kernel_rfl
 f129 := Tryz.func125.trans (congrArg some (by kernel_rfl))
 f284 := Tryz.func120.trans (congrArg some (by kernel_rfl))
 f317 := Tryz.func124.trans (congrArg some (by kernel_rfl))
 f318 := Tryz.func126.trans (congrArg some (by kernel_rfl))
 t0 := Tryz.underlying0
 a0 := Tryz.isAgg0
 z0 := Tryz.sizeOf0
 v0 := Tryz.zeroValue0
 t3 := Tryz.underlying3
 a3 := Tryz.isAgg3
 z3 := Tryz.sizeOf3
 v3 := Tryz.zeroValue3
 t4 := Tryz.underlying4
 a4 := Tryz.isAgg4
 z4 := Tryz.sizeOf4
 v4 := Tryz.zeroValue4
 t5 := Tryz.underlying5
 a5 := Tryz.isAgg5
 z5 := Tryz.sizeOf5
 v5 := Tryz.zeroValue5
 t9 := Tryz.underlying9
 a9 := Tryz.isAgg9
 z9 := Tryz.sizeOf9
 v9 := Tryz.zeroValue9
 t46 := Tryz.underlying98
 a46 := Tryz.isAgg98
 z46 := Tryz.sizeOf98
 v46 := Tryz.zeroValue98
 t53 := Tryz.underlying146
 a53 := Tryz.isAgg146
 z53 := Tryz.sizeOf146
 v53 := Tryz.zeroValue146
 t212 := Tryz.underlying153
 a212 := Tryz.isAgg153
 z212 := Tryz.sizeOf153
 v212 := Tryz.zeroValue153
 g17 := by kernel_rfl
 i0 := by kernel_rfl
 i3 := by kernel_rfl
 i4 := by kernel_rfl
 i5 := by kernel_rfl
 i9 := by kernel_rfl
 i46 := by kernel_rfl
 i53 := by kernel_rfl
 i212 := by kernel_rfl
 m17 := by kernel_rfl }
open Go.RowKit Go.Sort Go.Lib in
theorem Tryz.internal_strconv_numDigits (u : Nat) (h1 : 1 ≤ u) (h2 : u < 18446744073709551616) (w : World) (htab : Lib.TabIs Tryz.prog w "internal/strconv.uint64pow10" .u64 Lib.pow10Tab) :
  Calls Tryz.prog 120 #[.int .u64 u] w fun e w' => e = .returned (.int .i64 (Lib.nDigits u)) ∧ w' = w := Any.internal_strconv_numDigits Tryz.laysM284 u h1 h2 w htab
def Tryz.lays285_ren : Go.Shelf.Ren := ⟨fun | 285 => 121 | n => n, fun | 37 => 34 | 53 => 146 | 3 => 3 | 4 => 4 | 51 => 154 | 9 => 9 | 5 => 5 | 0 => 0 | n => n, fun | n => n⟩
theorem Tryz.lays285 : Go.Proofs.Lays.n285 Tryz.prog Tryz.lays285_ren := {
 mixed := by kernel_rfl
 f285 := Tryz.func121.trans (congrArg some (by kernel_rfl))
 t0 := Tryz.underlying0
 a0 := Tryz.isAgg0
 z0 := Tryz.sizeOf0
 v0 := Tryz.zeroValue0
 t3 := Tryz.underlying3
 a3 := Tryz.isAgg3
 z3 := Tryz.sizeOf3
 v3 := Tryz.zeroValue3
 t4 := Tryz.underlying4
 a4 := Tryz.isAgg4
 z4 := Tryz.sizeOf4
 v4 := Tryz.zeroValue4
 t5 := Tryz.underlying5
 a5 := Tryz.isAgg5
 z5 := Tryz.sizeOf5
 v5 := Tryz.zeroValue5
 t9 := Tryz.underlying9
 a9 := Tryz.isAgg9
 z9 := Tryz.sizeOf9
 v9 := Tryz.zeroValue9
 t37 := Tryz.underlying34
 a37 := Tryz.isAgg34
 z37 := Tryz.sizeOf34
 v37 := Tryz.zeroValue34
 t51 := Tryz.underlying154
 a51 := Tryz.isAgg154
 z51 := Tryz.sizeOf154
 v51 := Tryz.zeroValue154
 t53 := Tryz.underlying146
 a53 := Tryz.isAgg146
 z53 := Tryz.sizeOf146
 v53 := Tryz.zeroValue146 }
open Go.RowKit Go.Sort Go.Lib in
theorem Tryz.internal_strconv_formatBase10 (blk off cap : Nat) (u : Nat) (d : Array UInt8) (w : World) (hH : Holds (fun (b : UInt8) => Value.int .u8 (b.toNat : Int)) w blk off d) (hu : u < 10 ^ d.size) (hu64 : u < 18446744073709551616) (hsz : d.size < 4611686018427387904) :
  Calls Tryz.prog 121 #[.slice (some ⟨blk, off, none⟩) d.size cap, .int .u64 u] w fun e w' =>
   e = .returned (.tuple #[]) ∧ ∃ (n v' : Nat) (dk : Array UInt8), w' = (putRow (fun (b : UInt8) => Value.int .u8 (b.toNat : Int)) w blk off dk).drewN n ∧ FmtInv d.size u 0 v' dk := Any.internal_strconv_formatBase10 Tryz.lays285 blk off cap u d w hH hu hu64 hsz
def Tryz.laysM171_ren : Go.Shelf.Ren := ⟨fun | 171 => 90 | 243 => 105 | 246 => 116 | 283 => 119 | 284 => 120 | 285 => 121 | 286 => 122 | 129 => 125 | 317 => 124 | 318 => 126 | 319 => 127 | 320 => 128 | 337 => 129 | 338 => 130 | n => n, fun | 3 => 3 | 9 => 9 | 2 => 2 | 4 => 4 | 171 => 145 | 0 => 0 | 53 => 146 | 37 => 34 | 5 => 5 | 173 => 149 | 212 => 153 | 51 => 154 | 20 => 20 | 213 => 155 | 46 => 98 | 232 => 158 | 233 => 159 | n => n, fun | 17 => 0 | 18 => 1 | 19 => 2 | n => n⟩
theorem Tryz.laysM171 : Go.Proofs.LaysM.n171 Tryz.prog Tryz.laysM171_ren := {
 mixed := by kernel_rfl
 f129 := Tryz.func125.trans (congrArg some (by kernel_rfl))
 f171 := Tryz.func90.trans (congrArg some (by kernel_rfl))
 f243 := Tryz.func105.trans (congrArg some (by kernel_rfl))
 f246 := Tryz.func116.trans (congrArg some (by kernel_rfl))
 f283 := Tryz.func119.trans (congrArg some (by kernel_rfl))
 f284 := Tryz.func120.trans (congrArg some (by kernel_rfl))
 f285 := Tryz.func121.trans (congrArg some (by kernel_rfl))
 f286 := Tryz.func122.trans (congrArg some (by kernel_rfl))
 f317 := Tryz.func124.trans (congrArg some (by kernel_rfl))
 f318 := Tryz.func126.trans (congrArg some (by kernel_rfl))
 f319 := Tryz.func127.trans (congrArg some (by kernel_rfl))
 f320 := Tryz.func128.trans (congrArg some (by kernel_rfl))
 f337 := Tryz.func129.trans (congrArg some (by kernel_rfl))
 f338 := Tryz.func130.trans (congrArg some (by kernel_rfl))
 t0 := Tryz.underlying0
 a0 := Tryz.isAgg0
 z0 := Tryz.sizeOf0
 v0 := Tryz.zeroValue0
 t2 := Tryz.underlying2
 a2 := Tryz.isAgg2
 z2 := Tryz.sizeOf2
 v2 := Tryz.zeroValue2
 t3 := Tryz.underlying3
 a3 := Tryz.isAgg3
 z3 := Tryz.sizeOf3
 v3 := Tryz.zeroValue3
 t4 := Tryz.underlying4
 a4 := Tryz.isAgg4
 z4 := Tryz.sizeOf4
 v4 := Tryz.zeroValue4
 t5 := Tryz.underlying5
 a5 := Tryz.isAgg5
 z5 := Tryz.sizeOf5
 v5 := Tryz.zeroValue5
 t9 := Tryz.underlying9
 a9 := Tryz.isAgg9
 z9 := Tryz.sizeOf9
 v9 := Tryz.zeroValue9
 t20 := Tryz.underlying20
 a20 := Tryz.isAgg20
 z20 := Tryz.sizeOf20
 v20 := Tryz.zeroValue20
 t37 := Tryz.underlying34
 a37 := Tryz.isAgg34
 z37 := Tryz.sizeOf34
 v37 := Tryz.zeroValue34
 t46 := Tryz.underlying98
 a46 := Tryz.isAgg98
 z46 := Tryz.sizeOf98
 v46 := Tryz.zeroValue98
 t51 := Tryz.underlying154
 a51 := Tryz.isAgg154
 z51 := Tryz.sizeOf154
 v51 := Tryz.zeroValue154
 t53 := Tryz.underlying146
 a53 := Tryz.isAgg146
 z53 := Tryz.sizeOf146
 v53 := Tryz.zeroValue146
 t171 := Tryz.underlying145
 a171 := Tryz.isAgg145
 z171 := Tryz.sizeOf145
 v171 := Tryz.zeroValue145
 t173 := Tryz.underlying149
 a173 := Tryz.isAgg149
 z173 := Tryz.sizeOf149
 v173 := Tryz.zeroValue149
 t212 := Tryz.underlying153
 a212 := Tryz.isAgg153
 z212 := Tryz.sizeOf153
 v212 := Tryz.zeroValue153
 t213 := Tryz.underlying155
 a213 := Tryz.isAgg155
 z213 := Tryz.sizeOf155
 t232 := Tryz.underlying158
 a232 := Tryz.isAgg158
 z232 := Tryz.sizeOf158
 v232 := Tryz.zeroValue158
 t233 := Tryz.underlying159
 a233 := Tryz.isAgg159
 z233 := Tryz.sizeOf159
 v233 := Tryz.zeroValue159
 g17 := by kernel_rfl
 g18 := by kernel_rfl
 g19 := by kernel_rfl
 i0 := by kernel_rfl
 i2 := by kernel_rfl
 i3 := by kernel_rfl
 i4 := by kernel_rfl
 i5 := by kernel_rfl
 i9 := by kernel_rfl
 i20 := by kernel_rfl
 i37 := by kernel_rfl
 i46 := by kernel_rfl
 i51 := by kernel_rfl
 i53 := by kernel_rfl
 i171 := by kernel_rfl
 i173 := by kernel_rfl
 i212 := by kernel_rfl
 i232 := by kernel_rfl
 i233 := by kernel_rfl
 m17 := by kernel_rfl
 m18 := by kernel_rfl
 m19 := by kernel_rfl }
open Go.RowKit Go.Sort Go.Lib in
theorem Tryz.strconv_Itoa (n : Int) (h0 : -9223372036854775808 ≤ n) (h1 : n ≤ 9223372036854775807) (w : World) (htab : Lib.TabIs Tryz.prog w "internal/strconv.uint64pow10" .u64 Lib.pow10Tab) :
  Calls Tryz.prog 90 #[.int .i64 n] w fun e w' => e = .returned (.string ⟨(Lib.itoa n).toArray⟩) ∧ ∃ k os, w' = grow (w.drewN k) os := Any.strconv_Itoa Tryz.laysM171 n h0 h1 w htab
end Go.Proofs


namespace Go.Proofs.YtnpehjpookcfkaaGreatDoor
open Go.Lx Go.RowKit _root_.Go.Proofs.Tryz
theorem smallF (w : World) (i : Nat) (h : i < 100) : PureT Tryz.prog 119 [vI (i : Int)] w fun v N => v = str (Lib.decDigits i) ∧ N = [] := fun w1 M hI =>
 (Go.Proofs.Tryz.internal_strconv_small i h w1).mono (by rintro e w' ⟨rfl, rfl⟩; exact ⟨_, [], rfl, hI, rfl, rfl⟩)
theorem ndF (w : World) [t : Tab Tryz.prog w] (n : Nat) (h1 : 1 ≤ n) (hn : n < 1000000000000) : PureT Tryz.prog 120 [.int .u64 (n : Int)] w fun v N => v = vI (Lib.nDigits n : Int) ∧ N = [] := fun w1 M hI =>
 (Go.Proofs.Tryz.internal_strconv_numDigits n h1 (by omega) w1 (Tab.is (hI.tab (P := Tryz.prog)))).mono (by rintro e w' ⟨rfl, rfl⟩; exact ⟨_, [], rfl, hI, rfl, rfl⟩)
theorem appUintG (base : World) [Tab Tryz.prog base] (b : Option Addr) (c c' m n : Nat) (l : List UInt8) (hl : l.length = m) (hn : n < 1000000000000) (h100 : 100 ≤ n) (hm : m ≤ 1000000) :
  CallT Tryz.prog base 123 [.slice b m c, .int .u64 (n : Int), vI 10] [rowI b c 5 1 (cells8 l)] (fun v O' => ∃ b' c', v = .slice b' (m + (Lib.decDigits n).length) c' ∧ ∃ k cs, O' = [objI k (.cells cs 145 (0, 0)), rowI b' c' 5 1 (cells8 (l ++ Lib.decDigits n))]) := by
 have h20 : Lib.nDigits n ≤ 20 := by have := Lib.numDigits_eq n (by omega) (by omega); split at this <;> omega
 have h01 : 1 ≤ Lib.nDigits n := by rw [Lib.nDigits_big (by omega)]; omega
 refine CallT.enter func123 rfl ntmps123 rfl ?_
 refine T.s (T.rg (TO.qa rfl (TO.nl (T.s (T.s (T.rg (TO.qm rfl (TO.q (q_eql rfl rfl) (TO.nl ?_)))))))))
 refine T.cond1 rfl ?_
 refine T.s (T.s (T.rg (TO.qm rfl (TO.q (q_lss rfl rfl) (TO.nl (T.cond0 (congrArg Value.bool (decide_eq_false (show ¬ (n : Int) < 100 by omega))) (T.skip (T.s (T.rg (TO.l rfl (l_alloc inf145 rfl (fun bA => ?_))))))))))))
 refine TO.nl (T.s (T.rg (TO.qm rfl (TO.l rfl (l_call ent120 (CallT.op (fun w1 hI => by haveI := hI.tab (P := Tryz.prog); exact ndF w1 n (by omega) hn)) rfl ?_)))))
 rintro v O' ⟨N, rfl, rfl, rfl⟩
 refine TO.qa rfl (TO.nl (T.s (T.rg (TO.qm rfl (TO.q (q_sliceA underlying145 inf5 rfl rfl (by omega) h01) (TO.qm rfl ?_))))))
 have hk := (formatT (base := base) (b := bA) (T := 145) (n := n) (fun j hj => Lib.zeros24_at j hj) (by omega) hn Go.Proofs.Tryz.internal_strconv_formatBase10).under (O := [objI bA (.cells Lib.zeros24 145 (0, 0)), rowI b c 5 1 (cells8 l)]) (B := [rowI b c 5 1 (cells8 l)]) (Sub.of (List.Sublist.refl _))
 refine TO.l rfl (l_call ent121 hk rfl ?_)
 clear hk
 rintro v O' ⟨O1, rfl, rfl, cs, rfl, hcs⟩
 refine TO.nl (T.s (T.rg (TO.qm rfl (TO.qm rfl (TO.q (q_sliceA underlying145 inf5 rfl rfl (by omega) h01) (TO.l rfl (l_appendA (new := cells8 (Lib.decDigits n)) 0 1 underlying34 underlying34 inf5 rfl rfl rfl rfl (by simp [cells8, hl]) (by simp [cells8, Lib.decDigits_length]) rfl hcs (cells8_one _) (by omega) (by decide) (by decide) (fun b2 c2 => ?_))))))))
 refine TO.qa rfl (TO.nl (T.ret ?_))
 refine Res.one (.slice b2 (m + Lib.nDigits n) c2) Tryz.results123 rfl ?_
 refine ⟨b2, c2, by rw [Lib.decDigits_length], bA, cs, ?_⟩
 rw [show cells8 (l ++ Lib.decDigits n) = cells8 l ++ cells8 (Lib.decDigits n) from List.map_append]; rfl
theorem appUintS (base : World) (b : Option Addr) (c c' m n : Nat) (l : List UInt8) (hl : l.length = m) (hn : n < 100) (hm : m ≤ 1000000) :
  CallT Tryz.prog base 123 [.slice b m c, .int .u64 (n : Int), vI 10] [rowI b c 5 1 (cells8 l)] (fun v O' => ∃ b' c', v = .slice b' (m + (Lib.decDigits n).length) c' ∧ O' = [rowI b' c' 5 1 (cells8 (l ++ Lib.decDigits n))]) := by
 refine CallT.enter func123 rfl ntmps123 rfl ?_
 refine T.s (T.rg (TO.qa rfl (TO.nl (T.s (T.s (T.rg (TO.qm rfl (TO.q (q_eql rfl rfl) (TO.nl ?_)))))))))
 refine T.cond1 rfl ?_
 refine T.s (T.s (T.rg (TO.qm rfl (TO.q (q_lss rfl rfl) (TO.nl ?_)))))
 refine T.cond1 (congrArg Value.bool (decide_eq_true (show (n : Int) < 100 by omega))) ?_
 refine T.s (T.rg (TO.qm rfl (TO.qm rfl (TO.q (q_conv_id underlying146 underlying3 rfl (show IntKind.i64.wrap (n : Int) = (n : Int) from wrap64_id (by omega))) ?_))))
 have hk16 := fun (w1 : World) (hI : Inv base [rowI b c 5 1 (cells8 l)] w1) => smallF w1 n hn
 refine TO.l rfl (l_call ent119 (CallT.op hk16) rfl ?_)
 clear hk16
 rintro v O' ⟨N, rfl, rfl, rfl⟩
 refine TO.l rfl (l_appendS (s := Lib.decDigits n) 0 underlying34 underlying9 inf5 rfl rfl rfl rfl (by simp [hl]) rfl (by have := dec_len 1 n (by omega); omega) (by decide) (by decide) (fun b2 c2 => ?_))
 refine TO.qa rfl (TO.nl (T.ret ?_))
 refine Res.one (.slice b2 (m + (Lib.decDigits n).length) c2) Tryz.results123 rfl ?_
 exact ⟨b2, c2, rfl, by rw [show cells8 (l ++ Lib.decDigits n) = cells8 l ++ cells8 (Lib.decDigits n) from List.map_append]; rfl⟩
theorem appUintF (base : World) [Tab Tryz.prog base] (b : Option Addr) (c c' m n : Nat) (l : List UInt8) (hl : l.length = m) (hn : n < 1000000000000) (hm : m ≤ 1000000) :
  CallT Tryz.prog base 123 [.slice b m c, .int .u64 (n : Int), vI 10] [rowI b c 5 1 (cells8 l)] (fun v O' => ∃ b' c', v = .slice b' (m + (Lib.decDigits n).length) c' ∧ O' = [rowI b' c' 5 1 (cells8 (l ++ Lib.decDigits n))]) := by
 by_cases h : n < 100
 ·exact appUintS base b c c' m n l hl h hm
 ·exact (appUintG base b c c' m n l hl hn (by omega) hm).drop fun v O' ⟨b', c', h1, k, cs, h2⟩ => ⟨_, h2 ▸ Sub.of (List.sublist_cons_self _ _), b', c', h1, rfl⟩
theorem appIntF (base : World) [Tab Tryz.prog base] (b : Option Addr) (c c' m n : Nat) (l : List UInt8) (hl : l.length = m) (hn : n < 1000000000000) (hm : m ≤ 1000000) :
  CallT Tryz.prog base 118 [.slice b m c, vI (n : Int), vI 10] [rowI b c 5 1 (cells8 l)] (fun v O' => ∃ b' c', v = .slice b' (m + (Lib.decDigits n).length) c' ∧ O' = [rowI b' c' 5 1 (cells8 (l ++ Lib.decDigits n))]) := by
 refine CallT.enter func118 rfl ntmps118 rfl ?_
 refine T.s (T.rg (TO.qa rfl (TO.nl (T.s (T.rg (TO.qm rfl (TO.q (q_conv_id underlying2 underlying146 rfl (show IntKind.u64.wrap (n : Int) = (n : Int) by unfold IntKind.wrap; simp [IntKind.bits, IntKind.signed]; omega)) (TO.qa rfl (TO.nl (T.s (T.s (T.rg (TO.qm rfl (TO.q (q_lss rfl rfl) (TO.nl (T.cond0 (congrArg Value.bool (decide_eq_false (show ¬ (n : Int) < 0 by omega))) ?_))))))))))))))))
 refine T.skip (T.s (T.rg (TO.qm rfl (TO.qm rfl (TO.qm rfl ?_)))))
 have hk20 := appUintF base b c c' m n l hl hn hm
 refine TO.l rfl (l_call ent123 hk20 rfl ?_)
 clear hk20
 rintro v O' ⟨b2, c2, rfl, rfl⟩
 refine TO.qa rfl (TO.nl (T.ret ?_))
 refine Res.one (.slice b2 (m + (Lib.decDigits n).length) c2) Tryz.results118 rfl ?_
 exact ⟨b2, c2, rfl, rfl⟩
theorem appF (base : World) [Tab Tryz.prog base] (b : Option Addr) (c c' m n : Nat) (l : List UInt8) (hl : l.length = m) (hn : n < 1000000000000) (hm : m ≤ 1000000) :
  CallT Tryz.prog base 115 [.slice b m c, vI (n : Int), vI 10] [rowI b c 5 1 (cells8 l)] (fun v O' => ∃ b' c', v = .slice b' (m + (Lib.decDigits n).length) c' ∧ O' = [rowI b' c' 5 1 (cells8 (l ++ Lib.decDigits n))]) := by
 refine CallT.enter func115 rfl ntmps115 rfl ?_
 refine T.s (T.rg (TO.qa rfl (TO.nl (T.s (T.rg (TO.qm rfl (TO.qm rfl (TO.qm rfl ?_))))))))
 have hk10 := appIntF base b c c' m n l hl hn hm
 refine TO.l rfl (l_call ent118 hk10 rfl ?_)
 clear hk10
 rintro v O' ⟨b2, c2, rfl, rfl⟩
 refine TO.qa rfl (TO.nl (T.ret ?_))
 refine Res.one (.slice b2 (m + (Lib.decDigits n).length) c2) Tryz.results115 rfl ?_
 exact ⟨b2, c2, rfl, rfl⟩
theorem itoaF (w : World) [Tab Tryz.prog w] (n : Nat) (hn : n < 1000000000000) : PureT Tryz.prog 90 [vI (n : Int)] w fun v N => v = str (Lib.decDigits n) ∧ N = [] := fun w1 M hI =>
 (Go.Proofs.Tryz.strconv_Itoa n (by omega) (by omega) w1 (Tab.is (hI.tab (P := Tryz.prog)))).mono (by rintro e w' ⟨rfl, k, os, rfl⟩; exact ⟨_, [], rfl, hI.grow k os, by rw [Lib.itoa_nonneg]; rfl, rfl⟩)
theorem tbz {w w1 : World} {O : List Lx.Item} [Tab Tryz.prog w] (h : Inv w O w1) : Tab Tryz.prog w1 := Inv.tab (P := Tryz.prog) h
theorem aW {w : World} {O : List Lx.Item} {f : FuncId} {args : List Value} {R : Value → List Lx.Item → Prop} [Tab Tryz.prog w] (h : ∀ (w1 : World) [Tab Tryz.prog w1], PureT Tryz.prog f args w1 R) : CallT Tryz.prog w f args O (fun v O2 => ∃ N, O2 = N ++ O ∧ R v N) := CallT.op fun w1 hI => haveI := tbz hI; h w1
abbrev uT3 := @underlying3
abbrev uT4 := @underlying4
abbrev uT5 := @underlying5
abbrev uT9 := @underlying9
abbrev uT22 := @underlying22
abbrev uT23 := @underlying23
abbrev uT25 := @underlying25
abbrev uT27 := @underlying27
abbrev uT30 := @underlying30
abbrev uT34 := @underlying34
abbrev uT48 := @underlying48
abbrev uT49 := @underlying49
abbrev uT50 := @underlying50
abbrev uT57 := @underlying57
abbrev uT59 := @underlying59
abbrev uT65 := @underlying65
abbrev uT81 := @underlying81
abbrev uT89 := @underlying89
abbrev uT107 := @underlying107
abbrev uT114 := @underlying114
abbrev uT115 := @underlying115
abbrev uT116 := @underlying116
abbrev uT118 := @underlying118
abbrev uT120 := @underlying120
abbrev uT121 := @underlying121
abbrev uT123 := @underlying123
abbrev uT124 := @underlying124
abbrev uT129 := @underlying129
abbrev uT131 := @underlying131
end Go.Proofs.YtnpehjpookcfkaaGreatDoor


namespace Go.Proofs.YtnpehjpookcfkaaGreatDoor
open Go.Lx Go.RowKit _root_.Go.Proofs.Tryz
theorem giveHit (base : World) [Tab Tryz.prog base] (bx m : Nat) (ks : List (List UInt8)) (key : List UInt8) (hk : key ∈ ks) (hb : ks.length < 1000000) :
  CallT Tryz.prog base 114 [str key, .pointer (aD bx)] [objI bx (.cells #[.map (some m)] 129 (0, 0)), mapI str (fun n : Nat => Value.int .i64 (n : Int)) m ks.zipIdx] (fun v O' => v = vI ((ix key (add ks key) : Nat) : Int) ∧ O' = [objI bx (.cells #[.map (some m)] 129 (0, 0)), mapI str (fun n : Nat => Value.int .i64 (n : Int)) m (add ks key).zipIdx]) := by
 refine CallT.enter func114 rfl ntmps114 rfl ?_
 refine T.s (T.rg (TO.qa rfl (TO.nl (T.s (T.rg (TO.q (q_lb 0 uT129 rfl rfl rfl rfl) (TO.qm rfl (TO.q (QT.cast (q_lookupOk (a := key) uT129 inf3 (KeyOk.string uT9) rfl rfl (mG 1 rfl)) (v' := (.tuple #[vI ((ix key ks : Nat) : Int), .bool true])) (by rw [look_zip]; simp [hk])) (TO.qm rfl (TO.q (q_extract (vs := _) rfl rfl) (TO.q (q_extract (vs := _) rfl rfl) (TO.qa rfl (TO.qa rfl (TO.nl (T.s (T.s (T.rg (TO.qm rfl (TO.q (q_not rfl) (TO.nl ?_))))))))))))))))))))
 refine T.cond0 rfl (T.skip (T.s (T.rg (TO.qm rfl (TO.qa rfl (TO.nl (T.ret ?_)))))))
 refine Res.one (vI ((ix key ks : Nat) : Int)) Tryz.results114 rfl ?_
 have ha : add ks key = ks := if_pos hk
 rw [ha]; exact ⟨rfl, rfl⟩
theorem giveMiss (base : World) [Tab Tryz.prog base] (bx m : Nat) (ks : List (List UInt8)) (key : List UInt8) (hk : key ∉ ks) (hb : ks.length < 1000000) :
  CallT Tryz.prog base 114 [str key, .pointer (aD bx)] [objI bx (.cells #[.map (some m)] 129 (0, 0)), mapI str (fun n : Nat => Value.int .i64 (n : Int)) m ks.zipIdx] (fun v O' => v = vI ((ix key (add ks key) : Nat) : Int) ∧ O' = [objI bx (.cells #[.map (some m)] 129 (0, 0)), mapI str (fun n : Nat => Value.int .i64 (n : Int)) m (add ks key).zipIdx]) := by
 refine CallT.enter func114 rfl ntmps114 rfl ?_
 refine T.s (T.rg (TO.qa rfl (TO.nl (T.s (T.rg (TO.q (q_lb 0 uT129 rfl rfl rfl rfl) (TO.qm rfl (TO.q (QT.cast (q_lookupOk (a := key) uT129 inf3 (KeyOk.string uT9) rfl rfl (mG 1 rfl)) (v' := (.tuple #[vI 0, .bool false])) (by rw [look_zip]; simp [hk])) (TO.qm rfl (TO.q (q_extract (vs := _) rfl rfl) (TO.q (q_extract (vs := _) rfl rfl) (TO.qa rfl (TO.qa rfl (TO.nl (T.s (T.s (T.rg (TO.qm rfl (TO.q (q_not rfl) (TO.nl ?_))))))))))))))))))))
 refine T.cond1 rfl ?_
 refine T.s (T.rg (TO.q (q_lb 0 uT129 rfl rfl rfl rfl) (TO.q (QT.cast (q_lenMap uT129 rfl (mG 1 rfl)) (v' := vI ((ks.length : Nat) : Int)) (by simp)) (TO.qa rfl (TO.nl (T.rg (TO.q (q_lb 0 uT129 rfl rfl rfl rfl) (TO.qm rfl (TO.qm rfl (TO.l rfl (l_mapPut (a := key) (v := ks.length) 1 uT129 (KeyOk.string uT9) rfl rfl rfl rfl (by rw [zipIdx_fst]; exact hk) ?_)))))))))))
 refine TO.nl (T.s (T.rg (TO.qm rfl (TO.qa rfl (TO.nl (T.ret ?_))))))
 refine Res.one (vI ((ks.length : Nat) : Int)) Tryz.results114 rfl ?_
 have ha : add ks key = ks ++ [key] := if_neg hk
 rw [ha]
 refine ⟨by rw [ix_append_right hk]; simp [ix], ?_⟩
 rw [show (ks ++ [key]).zipIdx = ks.zipIdx ++ [(key, ks.length)] by rw [List.zipIdx_append]; simp]; rfl
theorem give (base : World) [Tab Tryz.prog base] (bx m : Nat) (ks : List (List UInt8)) (key : List UInt8) (hb : ks.length < 1000000) :
  CallT Tryz.prog base 114 [str key, .pointer (aD bx)] [objI bx (.cells #[.map (some m)] 129 (0, 0)), mapI str (fun n : Nat => Value.int .i64 (n : Int)) m ks.zipIdx] (fun v O' => v = vI ((ix key (add ks key) : Nat) : Int) ∧ O' = [objI bx (.cells #[.map (some m)] 129 (0, 0)), mapI str (fun n : Nat => Value.int .i64 (n : Int)) m (add ks key).zipIdx]) := by
 by_cases hk : key ∈ ks
 ·exact giveHit base bx m ks key hk hb
 ·exact giveMiss base bx m ks key hk hb
theorem rowsF (w : World) [Tab Tryz.prog w] (d : DFA) (nb fb : Option Addr) (nc fc : Nat) : PureT Tryz.prog 67 [.agg (dfaCells d nb nc fb fc).toArray] w fun v N => ∃ b, v = .func (.func 88) #[] #[.pointer (aD b)] ∧ N = [oI b 25 [(vI d.vars), (vI d.start), (.slice nb d.next.length nc), (.slice fb d.final.length fc)]] := by
 refine CallT.enter func67 rfl ntmps67 rfl ?_
 refine T.s (T.rg (TO.l rfl (l_box (v := (.agg #[(vI d.vars), (vI d.start), (.slice nb d.next.length nc), (.slice fb d.final.length fc)])) (cs := [(vI d.vars), (vI d.start), (.slice nb d.next.length nc), (.slice fb d.final.length fc)]) rfl rfl (fun b1 => ?_))))
 refine TO.qa rfl (TO.nl (T.s (T.rg (TO.q (q_makeFunc) (TO.qa rfl (TO.nl (T.ret ?_)))))))
 refine Res.one (.func (.func 88) #[] #[(.pointer (aD b1))]) Tryz.results67 rfl ?_
 exact ⟨b1, rfl, rfl⟩
theorem rows1 (base : World) [Tab Tryz.prog base] (d : DFA) (nb fb : Option Addr) (nc fc : Nat) (vs : List Value) (h : DfaAt base d nb vs fb) (hb : d.next.length < 9223372036854775807) (bx : Nat) (yv : Value) (J : Nat → List Lx.Item → Prop) (Q : List Lx.Item → Prop)
  (hy : ∀ k (hk : k < d.next.length) (vb : Option Addr) (vc : Nat) (O : List Lx.Item), vs[k]? = some (.slice vb d.next[k].length vc) → Sl base vb (ints d.next[k]) → J k O →
   CallV Tryz.prog base yv [vI (k : Int), .slice vb d.next[k].length vc] O (fun v O' => (v = .bool true ∧ J (k + 1) O') ∨ (v = .bool false ∧ Q O')))
  (O : List Lx.Item) (h0 : J 0 O) : CallT Tryz.prog base 88 [yv, .pointer (aD bx)] (oI bx 25 [(vI d.vars), (vI d.start), (.slice nb d.next.length nc), (.slice fb d.final.length fc)] :: O) (fun _ O' => J d.next.length O' ∨ Q O') := by
 refine CallT.enter func88 rfl ntmps88 rfl ?_
 have hvl := h.rows.1
 refine T.s (T.rg (TO.q (q_fa uT25 rfl inf22 rfl rfl) (TO.q (q_lb 0 uT22 rfl rfl rfl rfl) (TO.q (q_len uT22 rfl) (TO.qm rfl (TO.nl (T.block ?_)))))))
 refine T.loop (fun (k : Nat) ρ O => ∃ (O1 : List Lx.Item), O = ([oI bx 25 [(vI d.vars), (vI d.start), (.slice nb d.next.length nc), (.slice fb d.final.length fc)]] ++ O1) ∧ k ≤ d.next.length ∧ J k O1 ∧ Heads [(0, yv), (1, (.pointer (aD bx))), (6, (.slice nb d.next.length nc)), (7, vI (d.next.length : Int)), (8, vI (k : Int))] ρ) (fun k => d.next.length - k) 0 ?_ ?_
 ·exact ⟨O, rfl, Nat.zero_le _, h0, (.of rfl)⟩
 rintro k ρ O ⟨O1, rfl, hk, hJ, hH⟩
 obtain ⟨ρ0, rfl⟩ := hH.elim
 clear hH
 refine T.s (T.rg (TO.q (q_lss rfl rfl) (TO.nl (T.s (T.condP rfl (fun hc => ?_) (fun hc => ?_))))))
 ·have hlt9 : k < d.next.length := by omega
  obtain ⟨vb, vc, g1, s1⟩ := h.rows.get hlt9
  refine T.skip (T.s (T.block (T.s (T.rg (TO.qm rfl (TO.q (q_ix (i := k) uT22 inf48 rfl rfl (Sl.o h.outer)) (TO.q (q_ld uT48 rfl rfl (Sl.o h.outer) g1) (TO.qa rfl (TO.qa rfl (TO.nl (T.s (T.rg (TO.qm rfl (TO.qm rfl (TO.qm rfl ?_)))))))))))))))
  have hk16 := CallV.under (B := [oI bx 25 [(vI d.vars), (vI d.start), (.slice nb d.next.length nc), (.slice fb d.final.length fc)]]) (O := ([oI bx 25 [(vI d.vars), (vI d.start), (.slice nb d.next.length nc), (.slice fb d.final.length fc)]] ++ O1)) (hy k hlt9 vb vc O1 g1 s1 hJ) (Sub.ca [])
  refine TO.l rfl (l_callG hk16 rfl rfl ?_)
  clear hk16
  rintro v O' ⟨O2, rfl, ⟨rfl, hJ2⟩ | ⟨rfl, hQ2⟩⟩
  ·refine TO.q (q_not rfl) ?_
   refine TO.nl (T.cond0 rfl (T.skip ?_))
   refine T.sub (O' := oI bx 25 [(vI d.vars), (vI d.start), (.slice nb d.next.length nc), (.slice fb d.final.length fc)] :: O2) (Sub.ca []) ?_
   refine T.rg (TO.q (q_inc rfl rfl (by omega)) (TO.qm rfl (TO.nl ?_)))
   exact ⟨k + 1, by omega, O2, rfl, by omega, hJ2, (.of rfl)⟩
  refine TO.q (q_not rfl) (TO.nl ?_)
  refine T.cond1 rfl ?_
  refine T.ret (Res.drop ?_)
  refine Res.zero Tryz.results88 ?_
  exact ⟨O2, Sub.ca [oI bx 25 [(vI d.vars), (vI d.start), (.slice nb d.next.length nc), (.slice fb d.final.length fc)]], .inr hQ2⟩
 have hge9 : ¬ k < d.next.length := by omega
 refine T.exit ?_
 refine Res.drop ?_
 refine Res.zero Tryz.results88 ?_
 have hke : k = d.next.length := by omega
 subst hke
 exact ⟨O1, Sub.ca [oI bx 25 [(vI d.vars), (vI d.start), (.slice nb d.next.length nc), (.slice fb d.final.length fc)]], .inl hJ⟩
theorem refineC (w : World) [Tab Tryz.prog w] (d : DFA) (nb fb : Option Addr) (nc fc : Nat) (vs : List Value) (h : DfaAt w d nb vs fb) (hv : Valid d) (cb : Option Addr) (cc : Nat) (cs : List Nat) (hcs : Sl w cb (nats cs)) (hcl : cs.length = d.next.length) (hc9 : ∀ x ∈ cs, x < 10000) :
  PureT Tryz.prog 103 [.agg (dfaCells d nb nc fb fc).toArray, .slice cb d.next.length cc] w fun v N => ∃ b c, v = .slice b d.next.length c ∧ N = [rowI b c 3 1 (nats (refineF d cs))] := by
 refine CallT.enter func103 rfl ntmps103 rfl ?_
 have hb : d.next.length < 9223372036854775807 := by have := hv.n4; omega
 have hvl := h.rows.1
 have hn4 := hv.n4
 refine T.s (T.rg (TO.l rfl (l_box (v := (.agg #[(vI d.vars), (vI d.start), (.slice nb d.next.length nc), (.slice fb d.final.length fc)])) (cs := [(vI d.vars), (vI d.start), (.slice nb d.next.length nc), (.slice fb d.final.length fc)]) rfl rfl (fun b1 => ?_))))
 refine TO.l rfl (l_box (v := (.slice cb d.next.length cc)) (cs := [(.slice cb d.next.length cc)]) rfl rfl (fun b2 => ?_))
 refine TO.qa rfl (TO.nl (T.s (T.rg (TO.l rfl (l_makeMap str (fun n : Nat => Value.int .i64 (n : Int)) (fun m3 => ?_))))))
 refine TO.l rfl (l_alloc inf129 rfl (fun b4 => ?_))
 refine TO.l rfl (l_sb (v := (.map (some m3))) (vs := [(.map (some m3))]) 0 inf129 rfl rfl rfl rfl rfl rfl (by simp [putL]) ?_)
 refine TO.nl (T.s (T.rg (TO.q (q_makeFunc) (TO.l rfl (l_alloc inf131 rfl (fun b5 => ?_))))))
 refine TO.l rfl (l_sb (v := (.func (.func 114) #[] #[(.pointer (aD b4))])) (vs := [(.func (.func 114) #[] #[(.pointer (aD b4))])]) 0 inf131 rfl rfl rfl rfl rfl rfl (by simp [putL]) ?_)
 refine TO.nl (T.s (T.rg (TO.q (q_lb 3 uT48 rfl rfl rfl rfl) (TO.q (q_len uT48 rfl) (TO.l rfl (l_makeSlice (m := d.next.length) uT48 inf3 rfl rfl (by omega) (by omega) (fun b6 => ?_)))))))
 refine TO.l rfl (l_alloc inf48 rfl (fun b7 => ?_))
 refine TO.l rfl (l_sb (v := (.slice (aD b6) d.next.length d.next.length)) (vs := [(.slice (aD b6) d.next.length d.next.length)]) 0 inf48 rfl rfl rfl rfl rfl rfl (by simp [putL]) ?_)
 refine TO.nl (T.s (T.s (T.rg (TO.q (q_la 6 uT25 rfl inf25 rfl rfl rfl) ?_))))
 have hk19 := fun (w1 : World) (hI : Inv w [oI b7 48 [(.slice (aD b6) d.next.length d.next.length)], rowI (aD b6) d.next.length 3 1 (List.replicate d.next.length (vI 0)), oI b5 131 [(.func (.func 114) #[] #[(.pointer (aD b4))])], oI b4 129 [(.map (some m3))], mapI str (fun n : Nat => Value.int .i64 (n : Int)) m3 [], oI b2 48 [(.slice cb d.next.length cc)], oI b1 25 [(vI d.vars), (vI d.start), (.slice nb d.next.length nc), (.slice fb d.final.length fc)]] w1) => (haveI := tbz hI; rowsF w1 d nb fb nc fc)
 refine TO.l rfl (l_call ent67 (CallT.op hk19) rfl ?_)
 clear hk19
 rintro v O' ⟨N, rfl, bR, rfl, rfl⟩
 refine TO.nl (T.block ?_)
 refine T.rangeFunc (first := []) (caps := [(.pointer (aD bR))]) rfl ent88 (fun yl yq yhq => ?_)
 refine CallT.mono (CallT.sub (O' := oI bR 25 [(vI d.vars), (vI d.start), (.slice nb d.next.length nc), (.slice fb d.final.length fc)] :: (objI yl (lp yq none) :: [oI b7 48 [(.slice (aD b6) d.next.length d.next.length)], rowI (aD b6) d.next.length 3 1 (List.replicate d.next.length (vI 0)), oI b5 131 [(.func (.func 114) #[] #[(.pointer (aD b4))])], oI b4 129 [(.map (some m3))], mapI str (fun n : Nat => Value.int .i64 (n : Int)) m3 [], oI b2 48 [(.slice cb d.next.length cc)], oI b1 25 [(vI d.vars), (vI d.start), (.slice nb d.next.length nc), (.slice fb d.final.length fc)]])) (Sub.pick [1, 0, 0, 0, 0, 0, 0, 0, 0] rfl) (rows1 w d nb fb nc fc vs h hb bR (.func (.yield yl) #[] #[]) (fun k O => ∃ (xs : List Nat) (ks : List (List UInt8)), O = objI yl (lp yq none) :: [oI b7 48 [(.slice (aD b6) d.next.length d.next.length)], rowI (aD b6) d.next.length 3 1 (nats xs), oI b5 131 [(.func (.func 114) #[] #[(.pointer (aD b4))])], oI b4 129 [(.map (some m3))], mapI str (fun n : Nat => Value.int .i64 (n : Int)) m3 ks.zipIdx, oI b2 48 [(.slice cb d.next.length cc)], oI b1 25 [(vI d.vars), (vI d.start), (.slice nb d.next.length nc), (.slice fb d.final.length fc)]] ∧ k ≤ d.next.length ∧ xs.length = d.next.length ∧ ks = dd ((keysD d cs).take k) ∧ (∀ s, s < k → xs[s]? = some (ix (keyD d cs s) ks))) (fun _ => False) ?_ _ ?_)) ?_
 ·intro k hlt vb vc O g1 s1 hJ
  obtain ⟨xs, ks, rfl, hk, hxl, hks, hall⟩ := hJ
  refine CallV.yield yhq rfl rfl ?_
  have hkc : k < cs.length := by omega
  have hrow : d.next[k].length = 2 ^ d.vars.toNat := hv.len _ (List.getElem_mem hlt)
  have hrl : d.next[k].length ≤ 64 := by
   rw [hrow]; have := hv.v6; have := hv.v0
   exact Nat.le_trans (Nat.pow_le_pow_right (by omega) (show d.vars.toNat ≤ 6 by omega)) (by decide)
  have hks9 : ks.length < 1000000 := by
   have h1 := dd_length ((keysD d cs).take k)
   have h2 : ((keysD d cs).take k).length ≤ d.next.length := by rw [List.length_take]; simp [keysD]; omega
   rw [hks]; omega
  have hto : ∀ j (hj : j < d.next[k].length), 0 ≤ d.next[k][j] ∧ d.next[k][j].toNat < cs.length := fun j hj => by have := hv.ok _ (List.getElem_mem hlt) _ (List.getElem_mem hj); omega
  have hck : cs[k] < 10000 := hc9 _ (List.getElem_mem hkc)
  have hr9 : ∀ x ∈ rowK cs d.next[k], x < 10000 := rowK_lt hc9
  refine T.s (T.rg (TO.qa rfl (TO.nl (T.rg (TO.qa rfl (TO.nl (T.block (T.s (T.nilRow 5 1 ?_)))))))))
  refine T.rg (TO.q (q_lb 6 uT48 rfl rfl rfl rfl) (TO.qm rfl (TO.q (q_ix (i := k) uT48 inf3 rfl rfl (Sl.o hcs)) (TO.q (q_ld uT3 rfl rfl (Sl.o hcs) nats_get) ?_))))
  have hk26 := CallT.under (B := [oI b7 48 [(.slice (aD b6) d.next.length d.next.length)], rowI (aD b6) d.next.length 3 1 (nats xs), oI b5 131 [(.func (.func 114) #[] #[(.pointer (aD b4))])], oI b4 129 [(.map (some m3))], mapI str (fun n : Nat => Value.int .i64 (n : Int)) m3 ks.zipIdx, oI b2 48 [(.slice cb d.next.length cc)], oI b1 25 [(vI d.vars), (vI d.start), (.slice nb d.next.length nc), (.slice fb d.final.length fc)]]) (O := [rowI none 0 5 1 (cells8 []), oI b7 48 [(.slice (aD b6) d.next.length d.next.length)], rowI (aD b6) d.next.length 3 1 (nats xs), oI b5 131 [(.func (.func 114) #[] #[(.pointer (aD b4))])], oI b4 129 [(.map (some m3))], mapI str (fun n : Nat => Value.int .i64 (n : Int)) m3 ks.zipIdx, oI b2 48 [(.slice cb d.next.length cc)], oI b1 25 [(vI d.vars), (vI d.start), (.slice nb d.next.length nc), (.slice fb d.final.length fc)]]) (appF w none 0 0 0 cs[k] [] rfl (Nat.lt_trans hck (by decide)) (by omega)) (Sub.pick [0, 0, 0, 0, 0, 0, 0, 0] rfl)
  refine TO.l rfl (l_call ent115 hk26 rfl ?_)
  clear hk26
  rintro v O' ⟨A1, rfl, kb, kc, rfl, rfl⟩
  refine TO.qa rfl (TO.nl (T.s (T.s (T.rg (TO.qm rfl (TO.q (q_len uT48 rfl) (TO.qm rfl (TO.nl (T.block ?_)))))))))
  refine T.loop (fun (j : Nat) ρ O => ∃ (kb : Option Addr) (kc m : Nat), O = [rowI kb kc 5 1 (cells8 (keyK cs[k] (List.take j (rowK cs d.next[k])))), oI b7 48 [(.slice (aD b6) d.next.length d.next.length)], rowI (aD b6) d.next.length 3 1 (nats xs), oI b5 131 [(.func (.func 114) #[] #[(.pointer (aD b4))])], oI b4 129 [(.map (some m3))], mapI str (fun n : Nat => Value.int .i64 (n : Int)) m3 ks.zipIdx, oI b2 48 [(.slice cb d.next.length cc)], oI b1 25 [(vI d.vars), (vI d.start), (.slice nb d.next.length nc), (.slice fb d.final.length fc)]] ∧ j ≤ d.next[k].length ∧ m = (keyK cs[k] (List.take j (rowK cs d.next[k]))).length ∧ Heads [(0, (.agg #[(vI d.vars), (vI d.start), (.slice nb d.next.length nc), (.slice fb d.final.length fc)])), (1, (.slice cb d.next.length cc)), (2, (.pointer (aD b1))), (3, (.pointer (aD b2))), (4, nS), (5, (.pointer (aD b4))), (6, (.pointer (aD b5))), (7, (.pointer (aD b7))), (8, vI (k : Int)), (9, (.slice vb d.next[k].length vc)), (10, (.slice kb m kc)), (27, (.slice vb d.next[k].length vc)), (28, vI (d.next[k].length : Int)), (29, vI (j : Int))] ρ) (fun j => d.next[k].length - j) 0 ?_ ?_
  ·refine ⟨kb, kc, _, ?_, Nat.zero_le _, ?_, (.of rfl)⟩
   ·rw [show keyK cs[k] (List.take 0 (rowK cs d.next[k])) = [] ++ Lib.decDigits cs[k] by simp [keyK, tailK]]
    rfl
   ·simp [keyK, tailK]
  rintro j ρ O ⟨kb, kc, m, rfl, hj, hm, hH⟩
  obtain ⟨ρ0, rfl⟩ := hH.elim
  clear hH
  have hm9 : m ≤ 324 := by
   have := keyK_len hck (fun x hx => hr9 x (List.mem_of_mem_take hx) : ∀ x ∈ List.take j (rowK cs d.next[k]), x < 10000)
   rw [List.length_take] at this; omega
  refine T.s (T.rg (TO.q (q_lss rfl rfl) (TO.nl (T.s (T.condP rfl (fun hc => ?_) (fun hc => ?_))))))
  ·have hlt30 : j < d.next[k].length := by omega
   have htj := (hto j hlt30).2
   refine T.skip (T.s (T.block (T.s (T.rg (TO.q (q_ix (i := j) uT48 inf3 rfl rfl (Sl.o s1)) (TO.q (q_ld uT3 rfl rfl (Sl.o s1) ints_get) (TO.qa rfl (TO.nl ?_))))))))
   refine T.draws [oI b2 48 [(.slice cb d.next.length cc)]] [(0, 0), (3, 0), (4, 0), (5, 0), (6, 0), (1, 1), (2, 1), (7, 2), (8, 2)] mixed (by kernel_rfl) (Sub.pick [6] rfl) (fun _ _ _ h => h) ?_
   refine DO.q rfl (q_move rfl) (DO.q rfl (q_lb 0 uT48 rfl rfl rfl rfl) (DO.q rfl (q_move rfl) (DO.q rfl (q_ixz (i := d.next[k][j]) uT48 inf3 rfl rfl (Sl.o hcs) (hto j hlt30).1 (hcl ▸ (hto j hlt30).2) (by rw [List.length_map]; exact (hto j hlt30).2)) (DO.q rfl (q_ld uT3 rfl rfl (Sl.o hcs) (nats_get (hto j hlt30).2)) ?_))))
   refine DO.loud rfl rfl (l_build1 (v := .int .u8 32) uT34 inf5 rfl rfl rfl (fun b8 => ⟨Sub.pick [7] rfl, ?_⟩))
   refine DO.loud rfl rfl (l_append 1 uT34 uT34 inf5 rfl rfl rfl rfl (by rw [List.length_map, ← hm, Nat.mul_one]) (by decide) (Src.row (j := 0) rfl (by simp)) (by simp [oneB]) (by omega) (by decide) (by decide) (fun b9 c10 => ⟨Sub.pick [7] rfl, ?_⟩))
   have hk40 := CallT.under (B := [rowI (aD b8) 1 5 1 [.int .u8 32], oI b7 48 [(.slice (aD b6) d.next.length d.next.length)], rowI (aD b6) d.next.length 3 1 (nats xs), oI b5 131 [(.func (.func 114) #[] #[(.pointer (aD b4))])], oI b4 129 [(.map (some m3))], mapI str (fun n : Nat => Value.int .i64 (n : Int)) m3 ks.zipIdx, oI b2 48 [(.slice cb d.next.length cc)], oI b1 25 [(vI d.vars), (vI d.start), (.slice nb d.next.length nc), (.slice fb d.final.length fc)]]) (O := [rowI (aD b8) 1 5 1 [.int .u8 32], rowI b9 c10 5 1 ((cells8 (keyK cs[k] (List.take j (rowK cs d.next[k])))) ++ [.int .u8 32]), oI b7 48 [(.slice (aD b6) d.next.length d.next.length)], rowI (aD b6) d.next.length 3 1 (nats xs), oI b5 131 [(.func (.func 114) #[] #[(.pointer (aD b4))])], oI b4 129 [(.map (some m3))], mapI str (fun n : Nat => Value.int .i64 (n : Int)) m3 ks.zipIdx, oI b2 48 [(.slice cb d.next.length cc)], oI b1 25 [(vI d.vars), (vI d.start), (.slice nb d.next.length nc), (.slice fb d.final.length fc)]]) (appF w b9 c10 c10 (m + 1) cs[d.next[k][j].toNat] (keyK cs[k] (List.take j (rowK cs d.next[k])) ++ [32]) (by rw [List.length_append, ← hm]; rfl) (Nat.lt_trans (hc9 _ (List.getElem_mem (hto j hlt30).2)) (by decide)) (by omega)) (by rw [cells8_snoc]; exact (Sub.pick [1, 0, 0, 0, 0, 0, 0, 0, 0] rfl))
   refine DO.last rfl rfl (l_call ent115 hk40 rfl ?_)
   clear hk40
   rintro v O' ⟨A1, rfl, kb3, kc3, rfl, rfl⟩
   refine DO.sub (O' := [rowI kb3 kc3 5 1 (cells8 (keyK cs[k] (List.take j (rowK cs d.next[k])) ++ [32] ++ Lib.decDigits cs[d.next[k][j].toNat])), oI b7 48 [(.slice (aD b6) d.next.length d.next.length)], rowI (aD b6) d.next.length 3 1 (nats xs), oI b5 131 [(.func (.func 114) #[] #[(.pointer (aD b4))])], oI b4 129 [(.map (some m3))], mapI str (fun n : Nat => Value.int .i64 (n : Int)) m3 ks.zipIdx, oI b2 48 [(.slice cb d.next.length cc)], oI b1 25 [(vI d.vars), (vI d.start), (.slice nb d.next.length nc), (.slice fb d.final.length fc)]]) (Sub.pick [0, 1, 1, 1, 1, 1, 1, 1] rfl) ?_
   refine DO.last rfl rfl (LT.oq rfl rfl (q_assign rfl) ?_)
   refine DO.done ?_
   refine T.rg (TO.q (q_inc rfl rfl (by omega)) (TO.qm rfl (TO.nl ?_)))
   have hst := keyK_row (a := cs[k]) hlt30 (hto j hlt30).2
   refine ⟨j + 1, by omega, kb3, kc3, _, by rw [hst], by omega, ?_, (.of rfl)⟩
   rw [hst, List.length_append, List.length_append, ← hm]; rfl
  have hge30 : ¬ j < d.next[k].length := by omega
  refine T.exit ?_
  have hjf : j = d.next[k].length := by omega
  have hfull : List.take j (rowK cs d.next[k]) = rowK cs d.next[k] := List.take_of_length_le (by simp [rowK]; omega)
  have hKE : keyD d cs k = keyK cs[k] (rowK cs d.next[k]) := keyD_eq hlt hkc
  refine T.draws [rowI kb kc 5 1 (cells8 (keyK cs[k] (List.take j (rowK cs d.next[k])))), oI b7 48 [(.slice (aD b6) d.next.length d.next.length)], rowI (aD b6) d.next.length 3 1 (nats xs), oI b5 131 [(.func (.func 114) #[] #[(.pointer (aD b4))])], oI b4 129 [(.map (some m3))], oI b2 48 [(.slice cb d.next.length cc)], oI b1 25 [(vI d.vars), (vI d.start), (.slice nb d.next.length nc), (.slice fb d.final.length fc)]] [(0, 0), (1, 0), (2, 0), (3, 0), (4, 0), (5, 1), (6, 0), (7, 2)] mixed (by kernel_rfl) (Sub.pick [0, 0, 0, 0, 0, 1, 1] rfl) (fun _ _ _ h => h) ?_
  refine DO.q rfl (q_lb 1 uT48 rfl rfl rfl rfl) (DO.q rfl (q_move rfl) (DO.q rfl (q_lb 3 uT131 rfl rfl rfl rfl) (DO.q rfl (q_move rfl) (DO.q rfl (q_b2s (l := keyK cs[k] (List.take j (rowK cs d.next[k]))) uT34 uT9 uT5 rfl (mG 0 rfl) hm.symm) ?_))))
  have hk47 := CallV.of_fn (first := []) (args := [str (keyK cs[k] (List.take j (rowK cs d.next[k])))]) (caps := [(.pointer (aD b4))]) ent114 (CallT.under (B := [rowI kb kc 5 1 (cells8 (keyK cs[k] (List.take j (rowK cs d.next[k])))), oI b7 48 [(.slice (aD b6) d.next.length d.next.length)], rowI (aD b6) d.next.length 3 1 (nats xs), oI b5 131 [(.func (.func 114) #[] #[(.pointer (aD b4))])], oI b2 48 [(.slice cb d.next.length cc)], oI b1 25 [(vI d.vars), (vI d.start), (.slice nb d.next.length nc), (.slice fb d.final.length fc)]]) (O := [rowI kb kc 5 1 (cells8 (keyK cs[k] (List.take j (rowK cs d.next[k])))), oI b7 48 [(.slice (aD b6) d.next.length d.next.length)], rowI (aD b6) d.next.length 3 1 (nats xs), oI b5 131 [(.func (.func 114) #[] #[(.pointer (aD b4))])], oI b4 129 [(.map (some m3))], mapI str (fun n : Nat => Value.int .i64 (n : Int)) m3 ks.zipIdx, oI b2 48 [(.slice cb d.next.length cc)], oI b1 25 [(vI d.vars), (vI d.start), (.slice nb d.next.length nc), (.slice fb d.final.length fc)]]) (give w b4 m3 ks (keyK cs[k] (List.take j (rowK cs d.next[k]))) hks9) (Sub.pick [4, 4, 0, 0, 0, 0, 0, 0] rfl))
  refine DO.loud rfl rfl (l_callG hk47 rfl rfl ?_)
  clear hk47
  rintro v O' ⟨A1, rfl, rfl, rfl⟩
  refine ⟨Sub.pick [2, 2, 2, 2, 0, 1, 1] rfl, ?_⟩
  refine DO.sub (O' := [rowI kb kc 5 1 (cells8 (keyK cs[k] (List.take j (rowK cs d.next[k])))), oI b7 48 [(.slice (aD b6) d.next.length d.next.length)], rowI (aD b6) d.next.length 3 1 (nats xs), oI b5 131 [(.func (.func 114) #[] #[(.pointer (aD b4))])], oI b4 129 [(.map (some m3))], mapI str (fun n : Nat => Value.int .i64 (n : Int)) m3 ((add ks (keyK cs[k] (List.take j (rowK cs d.next[k])))).zipIdx), oI b2 48 [(.slice cb d.next.length cc)], oI b1 25 [(vI d.vars), (vI d.start), (.slice nb d.next.length nc), (.slice fb d.final.length fc)]]) (Sub.pick [2, 2, 2, 2, 0, 0, 0, 0] rfl) ?_
  refine DO.q rfl (q_ix (i := k) uT48 inf3 rfl rfl (rowO (mG 2 rfl))) ?_
  refine DO.last rfl rfl (l_st (j := k) (v := vI ((ix (keyK cs[k] (List.take j (rowK cs d.next[k]))) (add ks (keyK cs[k] (List.take j (rowK cs d.next[k])))) : Nat) : Int)) (vs := [(vI ((ix (keyK cs[k] (List.take j (rowK cs d.next[k]))) (add ks (keyK cs[k] (List.take j (rowK cs d.next[k])))) : Nat) : Int))]) (cs := nats xs) 2 inf3 rfl rfl rfl rfl rfl (by simp) rfl (by first | (simp; omega) | (simp_all; omega)) ?_)
  refine DO.sub (O' := [rowI kb kc 5 1 (cells8 (keyK cs[k] (List.take j (rowK cs d.next[k])))), oI b7 48 [(.slice (aD b6) d.next.length d.next.length)], rowI (aD b6) d.next.length 3 1 (nats (xs.set k (ix (keyK cs[k] (List.take j (rowK cs d.next[k]))) (add ks (keyK cs[k] (List.take j (rowK cs d.next[k]))))))), oI b5 131 [(.func (.func 114) #[] #[(.pointer (aD b4))])], oI b4 129 [(.map (some m3))], mapI str (fun n : Nat => Value.int .i64 (n : Int)) m3 ((add ks (keyK cs[k] (List.take j (rowK cs d.next[k])))).zipIdx), oI b2 48 [(.slice cb d.next.length cc)], oI b1 25 [(vI d.vars), (vI d.start), (.slice nb d.next.length nc), (.slice fb d.final.length fc)]]) (by rw [show putL (nats xs) k [(vI ((ix (keyK cs[k] (List.take j (rowK cs d.next[k]))) (add ks (keyK cs[k] (List.take j (rowK cs d.next[k])))) : Nat) : Int))] = nats (xs.set k (ix (keyK cs[k] (List.take j (rowK cs d.next[k]))) (add ks (keyK cs[k] (List.take j (rowK cs d.next[k])))))) from by simp [putL]]; exact Sub.of (List.Sublist.refl _)) ?_
  refine DO.sub (O' := [oI b7 48 [(.slice (aD b6) d.next.length d.next.length)], rowI (aD b6) d.next.length 3 1 (nats (xs.set k (ix (keyK cs[k] (List.take j (rowK cs d.next[k]))) (add ks (keyK cs[k] (List.take j (rowK cs d.next[k]))))))), oI b5 131 [(.func (.func 114) #[] #[(.pointer (aD b4))])], oI b4 129 [(.map (some m3))], mapI str (fun n : Nat => Value.int .i64 (n : Int)) m3 ((add ks (keyK cs[k] (List.take j (rowK cs d.next[k])))).zipIdx), oI b2 48 [(.slice cb d.next.length cc)], oI b1 25 [(vI d.vars), (vI d.start), (.slice nb d.next.length nc), (.slice fb d.final.length fc)]]) (Sub.pick [1, 1, 1, 1, 1, 1, 1] rfl) ?_
  refine DO.done ?_
  refine .inl ⟨rfl, xs.set k (ix (keyK cs[k] (List.take j (rowK cs d.next[k]))) (add ks (keyK cs[k] (List.take j (rowK cs d.next[k]))))), add ks (keyK cs[k] (List.take j (rowK cs d.next[k]))), rfl, by omega, by simp [hxl], ?_, ?_⟩
  ·rw [keysD_take hlt, dd_snoc, ← hks, hKE, hfull]
  ·intro s hs
   by_cases e : s = k
   ·subst e; rw [List.getElem?_set_self (by omega), hKE, hfull]
   ·rw [List.getElem?_set_ne (fun h => e h.symm), hall s (by omega)]
    refine congrArg some (ix_prefix (add_prefix _ _) ?_).symm
    rw [hks]; exact mem_dd.2 (keyD_mem (by omega) (by omega))
 ·refine ⟨List.replicate d.next.length 0, [], ?_, Nat.zero_le _, by simp, by simp [dd], fun s hs => absurd hs (by omega)⟩
  simp
 rintro v O' (⟨xs, ks, rfl, hk, hxl, hks, hall⟩ | hF)
 rotate_left
 ·exact hF.elim
 refine ⟨none, _, rfl, ?_⟩
 refine T.s (T.rg (TO.q (q_lb 0 uT48 rfl rfl rfl rfl) (TO.qa rfl (TO.nl (T.ret (Res.drop ?_))))))
 refine Res.one (.slice (aD b6) d.next.length d.next.length) Tryz.results103 rfl ?_
 have hx : xs = refineF d cs := by
  apply List.ext_getElem?
  intro s
  by_cases hs : s < d.next.length
  ·rw [hall s hs, hks, List.take_of_length_le (by simp [keysD])]; simp [refineF, keysD, hs]
  ·rw [List.getElem?_eq_none (by omega), List.getElem?_eq_none (by simp [refineF, keysD]; omega)]
 exact ⟨[rowI (aD b6) d.next.length 3 1 (nats xs)], (Sub.pick [1] rfl), _, _, rfl, by rw [hx]⟩
theorem beginC (w : World) [Tab Tryz.prog w] (d : DFA) (nb fb : Option Addr) (nc fc : Nat) (vs : List Value) (h : DfaAt w d nb vs fb) (hv : Valid d) :
  PureT Tryz.prog 102 [.agg (dfaCells d nb nc fb fc).toArray] w fun v N => ∃ b c, v = .slice b d.next.length c ∧ N = [rowI b c 3 1 (nats (beginF d))] := by
 refine CallT.enter func102 rfl ntmps102 rfl ?_
 have hn4 := hv.n4
 have hn0 := hv.n0
 have hfl := hv.fin
 refine T.s (T.rg (TO.l rfl (l_box (v := (.agg #[(vI d.vars), (vI d.start), (.slice nb d.next.length nc), (.slice fb d.final.length fc)])) (cs := [(vI d.vars), (vI d.start), (.slice nb d.next.length nc), (.slice fb d.final.length fc)]) rfl rfl (fun b1 => ?_))))
 refine TO.qa rfl (TO.nl (T.s (T.rg (TO.q (q_fa uT25 rfl inf22 rfl rfl) (TO.q (q_lb 0 uT22 rfl rfl rfl rfl) (TO.q (q_len uT22 rfl) (TO.l rfl (l_makeSlice (m := d.next.length) uT48 inf3 rfl rfl (by omega) (by omega) (fun b2 => ?_)))))))))
 refine TO.qa rfl (TO.nl (T.s (T.s (T.rg (TO.qm rfl (TO.q (q_len uT48 rfl) (TO.qm rfl (TO.nl (T.block ?_)))))))))
 refine T.loop (fun (k : Nat) ρ O => ∃ (xs : List Nat), O = [rowI (aD b2) d.next.length 3 1 (nats xs), oI b1 25 [(vI d.vars), (vI d.start), (.slice nb d.next.length nc), (.slice fb d.final.length fc)]] ∧ k ≤ d.next.length ∧ xs.length = d.next.length ∧ (∀ s, s < k → xs[s]? = some (if d.final.getD s false ≠ d.final.getD 0 false then 1 else 0)) ∧ (∀ s, k ≤ s → s < d.next.length → xs[s]? = some 0) ∧ Heads [(0, (.agg #[(vI d.vars), (vI d.start), (.slice nb d.next.length nc), (.slice fb d.final.length fc)])), (1, (.pointer (aD b1))), (2, nS), (3, (.slice (aD b2) d.next.length d.next.length)), (10, vI (d.next.length : Int)), (11, vI (k : Int))] ρ) (fun k => d.next.length - k) 0 ?_ ?_
 ·refine ⟨List.replicate d.next.length 0, by simp, Nat.zero_le _, by simp, fun s hs => absurd hs (by omega), fun s _ hs => by simp [hs], (.of rfl)⟩
 rintro k ρ O ⟨xs, rfl, hk, hxl, hdone, htodo, hH⟩
 obtain ⟨ρ0, rfl⟩ := hH.elim
 clear hH
 refine T.s (T.rg (TO.q (q_lss rfl rfl) (TO.nl (T.s (T.condP rfl (fun hc => ?_) (fun hc => ?_))))))
 ·have hlt12 : k < d.next.length := by omega
  have hkf : k < d.final.length := by omega
  have h0f : 0 < d.final.length := by omega
  have hkx : k < xs.length := by omega
  refine T.skip (T.s (T.block (T.s (T.rg (TO.qm rfl (TO.qa rfl (TO.nl (T.s ?_))))))))
  refine T.draws [oI b1 25 [(vI d.vars), (vI d.start), (.slice nb d.next.length nc), (.slice fb d.final.length fc)]] [(0, 0), (1, 0), (2, 0), (3, 0), (4, 0), (5, 0), (6, 0), (7, 0), (8, 0), (9, 0)] mixed (by kernel_rfl) (Sub.pick [1] rfl) (fun _ _ _ h => h) ?_
  refine DO.q rfl (q_fa uT25 rfl inf23 rfl rfl) (DO.q rfl (q_lb 0 uT23 rfl rfl rfl rfl) (DO.q rfl (q_move rfl) (DO.q rfl (q_ix (i := k) uT23 inf4 rfl rfl (Sl.o h.final)) (DO.q rfl (q_ld uT4 rfl rfl (Sl.o h.final) bools_get) (DO.q rfl (q_fa uT25 rfl inf23 rfl rfl) (DO.q rfl (q_lb 0 uT23 rfl rfl rfl rfl) (DO.q rfl (q_ix (i := 0) uT23 inf4 rfl rfl (Sl.o h.final)) (DO.q rfl (q_ld uT4 rfl rfl (Sl.o h.final) bools_get) (DO.q rfl (q_bneq uT4 rfl rfl) ?_)))))))))
  refine DO.done ?_
  refine T.condP (p := ¬ d.final[k] = d.final[0]) (congrArg Value.bool (by cases d.final[k] <;> cases d.final[0] <;> rfl)) (fun hc => ?_) (fun hc => ?_)
  ·refine T.rg ?_
   refine TO.qm rfl (TO.qm rfl (TO.q (q_ix (i := k) uT48 inf3 rfl rfl (rowO (mG 0 rfl))) (TO.l rfl (l_st (j := k) (v := vI 1) (vs := [(vI 1)]) (cs := nats xs) 0 inf3 rfl rfl rfl rfl rfl (by simp) rfl (by first | (simp; omega) | (simp_all; omega)) ?_))))
   refine TO.sub (O' := [rowI (aD b2) d.next.length 3 1 (nats (xs.set k 1)), oI b1 25 [(vI d.vars), (vI d.start), (.slice nb d.next.length nc), (.slice fb d.final.length fc)]]) (by rw [show putL (nats xs) k [(vI 1)] = nats (xs.set k 1) from by simp [putL]]; exact Sub.of (List.Sublist.refl _)) ?_
   refine TO.nl (T.rg (TO.q (q_inc rfl rfl (by omega)) (TO.qm rfl (TO.nl ?_))))
   refine ⟨k + 1, by omega, xs.set k 1, rfl, by omega, by simp [hxl], fun s hs => ?_, fun s h1 h2 => ?_, (.of rfl)⟩
   ·by_cases e : s = k
    ·subst e; rw [List.getElem?_set_self (by omega)]; simp [hkf, h0f, hc]
    ·rw [List.getElem?_set_ne (fun h => e h.symm)]; exact hdone s (by omega)
   ·rw [List.getElem?_set_ne (by omega)]; exact htodo s (by omega) h2
  refine T.skip (T.rg (TO.q (q_inc rfl rfl (by omega)) (TO.qm rfl (TO.nl ?_))))
  refine ⟨k + 1, by omega, xs, rfl, by omega, hxl, fun s hs => ?_, fun s h1 h2 => htodo s (by omega) h2, (.of rfl)⟩
  by_cases e : s = k
  ·subst e; rw [htodo _ (Nat.le_refl _) hlt12]; simp [hkf, h0f, Classical.not_not.1 hc]
  ·exact hdone s (by omega)
 have hge12 : ¬ k < d.next.length := by omega
 refine T.exit ?_
 refine T.s (T.rg (TO.qm rfl (TO.qa rfl (TO.nl (T.ret (Res.drop ?_))))))
 refine Res.one (.slice (aD b2) d.next.length d.next.length) Tryz.results102 rfl ?_
 have hx : xs = beginF d := by
  apply List.ext_getElem?
  intro s
  by_cases hs : s < d.next.length
  ·rw [hdone s (by omega)]; simp [beginF, hs]
  ·rw [List.getElem?_eq_none (by omega), List.getElem?_eq_none (by simp [beginF]; omega)]
 exact ⟨[rowI (aD b2) d.next.length 3 1 (nats xs)], (Sub.pick [0] rfl), _, _, rfl, by rw [hx]⟩
theorem slicesEqual (w : World) [Tab Tryz.prog w] (b1 b2 : Option Addr) (c1 c2 n : Nat) (xs ys : List Nat) (h1 : Sl w b1 (nats xs)) (h2 : Sl w b2 (nats ys)) (hx : xs.length = n) (hy : ys.length = n) (hb : n < 9223372036854775807) :
  PureT Tryz.prog 104 [.slice b1 n c1, .slice b2 n c2] w fun v N => v = .bool (decide (xs = ys)) ∧ N = [] := by
 refine CallT.enter func104 rfl ntmps104 rfl ?_
 refine T.s (T.rg (TO.qa rfl (TO.nl (T.s (T.s (T.rg (TO.qm rfl (TO.q (q_len uT48 rfl) (TO.qm rfl (TO.q (q_len uT48 rfl) (TO.q (q_neq rfl rfl) (TO.nl (T.condP rfl (fun hc => ?_) (fun hc => ?_))))))))))))))
 ·exact absurd hc (by omega)
 have hge10 : ¬ n ≠ n := by omega
 refine T.skip (T.s (T.s (T.rg (TO.qm rfl (TO.q (q_len uT48 rfl) (TO.qm rfl (TO.nl (T.block ?_))))))))
 refine T.loop (fun (k : Nat) ρ O => O = [] ∧ k ≤ n ∧ xs.take k = ys.take k ∧ Heads [(0, (.slice b1 n c1)), (1, (.slice b2 n c2)), (12, vI (n : Int)), (13, vI (k : Int))] ρ) (fun k => n - k) 0 ?_ ?_
 ·exact ⟨rfl, Nat.zero_le _, rfl, ⟨rfl, rfl, rfl, rfl, trivial⟩⟩
 rintro k ρ O ⟨rfl, hk, he, hH⟩
 obtain ⟨ρ0, rfl⟩ := hH.elim
 clear hH
 refine T.s (T.rg (TO.q (q_lss rfl rfl) (TO.nl (T.s (T.condP rfl (fun hc => ?_) (fun hc => ?_))))))
 ·have hlt14 : k < n := by omega
  have hkx : k < xs.length := by omega
  have hky : k < ys.length := by omega
  refine T.skip (T.s (T.block (T.s (T.rg (TO.qm rfl (TO.qa rfl (TO.nl (T.s ?_))))))))
  refine T.draws _ [(0, 0), (1, 0), (2, 0), (3, 0), (4, 0), (5, 0), (6, 0), (7, 0), (8, 0)] mixed (by kernel_rfl) (Sub.of (List.Sublist.refl _)) (fun _ _ _ h => h) ?_
  refine DO.q rfl (q_move rfl) (DO.q rfl (q_move rfl) (DO.q rfl (q_ix (i := k) uT48 inf3 rfl rfl (Sl.o h1)) (DO.q rfl (q_ld uT3 rfl rfl (Sl.o h1) nats_get) (DO.q rfl (q_move rfl) (DO.q rfl (q_move rfl) (DO.q rfl (q_ix (i := k) uT48 inf3 rfl rfl (Sl.o h2)) (DO.q rfl (q_ld uT3 rfl rfl (Sl.o h2) nats_get) (DO.q rfl (q_neq rfl rfl) ?_))))))))
  refine DO.done ?_
  refine T.condP (p := ¬ xs[k] = ys[k]) (congrArg Value.bool (decide_eq_decide.2 (by omega))) (fun hc => ?_) (fun hc => ?_)
  ·have hlt24 : xs[k] ≠ ys[k] := by omega
   refine T.s (T.rg (TO.qa rfl (TO.nl (T.ret ?_))))
   refine Res.one (.bool false) Tryz.results104 rfl ?_
   exact ⟨congrArg Value.bool (decide_eq_false (fun e => hc (by subst e; rfl))).symm, rfl⟩
  have hge24 : ¬ xs[k] ≠ ys[k] := by omega
  refine T.skip (T.rg (TO.q (q_inc rfl rfl (by omega)) (TO.qm rfl (TO.nl ?_))))
  refine ⟨k + 1, by omega, rfl, by omega, ?_, ⟨rfl, rfl, rfl, rfl, trivial⟩⟩
  rw [List.take_succ_eq_append_getElem hkx, List.take_succ_eq_append_getElem hky, he]
  exact congrArg _ (congrArg (fun z => [z]) (Classical.not_not.1 hc))
 have hge14 : ¬ k < n := by omega
 refine T.exit ?_
 refine T.s (T.rg (TO.qa rfl (TO.nl (T.ret ?_))))
 refine Res.one (.bool true) Tryz.results104 rfl ?_
 exact ⟨congrArg Value.bool (decide_eq_true (show xs = ys by rw [List.take_of_length_le (by omega), List.take_of_length_le (by omega)] at he; exact he)).symm, rfl⟩
theorem roundsBad (w : World) [Tab Tryz.prog w] (d : DFA) (nb fb : Option Addr) (nc fc : Nat) (vs : List Value) (h : DfaAt w d nb vs fb) (hb : d.next.length < 9223372036854775807) (hbr : ∀ r ∈ d.next, r.length < 9223372036854775807) (hbf : d.final.length < 9223372036854775807) (he : checkD d ≠ 0) (k : Int) :
  PureT Tryz.prog 87 [.agg (dfaCells d nb nc fb fc).toArray, vI k] w fun v N => v = .tuple #[nS, vI (checkD d : Int)] ∧ N = [] := by
 refine CallT.enter func87 rfl ntmps87 rfl ?_
 refine T.s (T.rg (TO.l rfl (l_box (v := (.agg #[(vI d.vars), (vI d.start), (.slice nb d.next.length nc), (.slice fb d.final.length fc)])) (cs := [(vI d.vars), (vI d.start), (.slice nb d.next.length nc), (.slice fb d.final.length fc)]) rfl rfl (fun b1 => ?_))))
 refine TO.qa rfl (TO.qa rfl (TO.nl (T.s (T.s (T.rg (TO.q (q_la 0 uT25 rfl inf25 rfl rfl rfl) ?_))))))
 have hk10 := fun (w1 : World) (hI : Inv w [oI b1 25 [(vI d.vars), (vI d.start), (.slice nb d.next.length nc), (.slice fb d.final.length fc)]] w1) => (haveI := tbz hI; subsetCheck w1 d nb fb nc fc vs (hI.dfa h) hb hbr hbf)
 refine TO.l rfl (l_call ent33 (CallT.op hk10) rfl ?_)
 clear hk10
 rintro v O' ⟨N, rfl, rfl, rfl⟩
 refine TO.qa rfl (TO.nl (T.s (T.rg (TO.qm rfl (TO.q (QT.toB (q_neq rfl rfl) (decide_eq_true (by omega))) (TO.nl ?_))))))
 refine T.cond1 rfl ?_
 refine T.s (T.rg (TO.qm rfl (TO.qa rfl (TO.qa rfl (TO.nl (T.ret (Res.drop ?_)))))))
 refine Res.two nS (vI (checkD d : Int)) Tryz.results87 rfl rfl ?_
 exact ⟨[], Sub.of (List.nil_sublist _), rfl, rfl⟩
theorem roundsOk (w : World) [Tab Tryz.prog w] (d : DFA) (nb fb : Option Addr) (nc fc : Nat) (vs : List Value) (h : DfaAt w d nb vs fb) (hv : Valid d) (hn : d.next.length < 10000) (k : Int) (hk9 : k ≤ 9223372036854775807) :
  PureT Tryz.prog 87 [.agg (dfaCells d nb nc fb fc).toArray, vI k] w fun v N => ∃ b c, v = .tuple #[.slice b d.next.length c, vI 0] ∧ N = [rowI b c 3 1 (nats (itF d k.toNat))] := by
 refine CallT.enter func87 rfl ntmps87 rfl ?_
 have he := checkD_zero.2 hv
 have hb : d.next.length < 9223372036854775807 := by omega
 have hbr : ∀ r ∈ d.next, r.length < 9223372036854775807 := hv.bound
 have hbf : d.final.length < 9223372036854775807 := by have := hv.fin; omega
 refine T.s (T.rg (TO.l rfl (l_box (v := (.agg #[(vI d.vars), (vI d.start), (.slice nb d.next.length nc), (.slice fb d.final.length fc)])) (cs := [(vI d.vars), (vI d.start), (.slice nb d.next.length nc), (.slice fb d.final.length fc)]) rfl rfl (fun b1 => ?_))))
 refine TO.qa rfl (TO.qa rfl (TO.nl (T.s (T.s (T.rg (TO.q (q_la 0 uT25 rfl inf25 rfl rfl rfl) ?_))))))
 have hk10 := fun (w1 : World) (hI : Inv w [oI b1 25 [(vI d.vars), (vI d.start), (.slice nb d.next.length nc), (.slice fb d.final.length fc)]] w1) => (haveI := tbz hI; subsetCheck w1 d nb fb nc fc vs (hI.dfa h) hb hbr hbf)
 refine TO.l rfl (l_call ent33 (CallT.op hk10) rfl ?_)
 clear hk10
 rintro v O' ⟨N, rfl, rfl, rfl⟩
 rw [he]
 refine TO.qa rfl (TO.nl (T.s (T.rg (TO.qm rfl (TO.q (q_neq rfl rfl) (TO.nl (T.cond0 rfl (T.skip (T.s (T.rg (TO.q (q_la 0 uT25 rfl inf25 rfl rfl rfl) ?_)))))))))))
 have hk15 := fun (w1 : World) (hI : Inv w [oI b1 25 [(vI d.vars), (vI d.start), (.slice nb d.next.length nc), (.slice fb d.final.length fc)]] w1) => (haveI := tbz hI; beginC w1 d nb fb nc fc vs (hI.dfa h) hv)
 refine TO.l rfl (l_call ent102 (CallT.op hk15) rfl ?_)
 clear hk15
 rintro v O' ⟨N, rfl, b0, c0, rfl, rfl⟩
 refine TO.qa rfl (TO.nl (T.s (T.s (T.rg (TO.qm rfl (TO.qm rfl (TO.nl (T.block ?_))))))))
 refine T.loop (fun (i : Nat) ρ O => ∃ (b : Option Addr) (c : Nat), O = [rowI b c 3 1 (nats (itF d i)), oI b1 25 [(vI d.vars), (vI d.start), (.slice nb d.next.length nc), (.slice fb d.final.length fc)]] ∧ i ≤ k.toNat ∧ Heads [(0, (.agg #[(vI d.vars), (vI d.start), (.slice nb d.next.length nc), (.slice fb d.final.length fc)])), (1, vI k), (2, (.pointer (aD b1))), (4, nS), (5, vI 0), (6, vI ((0 : Nat) : Int)), (7, (.slice b d.next.length c)), (16, vI k), (17, vI (i : Int))] ρ) (fun i => k.toNat - i) 0 ?_ ?_
 ·exact ⟨b0, c0, rfl, Nat.zero_le _, (.of rfl)⟩
 rintro i ρ O ⟨b, c, rfl, hki, hH⟩
 obtain ⟨ρ0, rfl⟩ := hH.elim
 clear hH
 refine T.s (T.rg (TO.q (q_lss rfl rfl) (TO.nl (T.s (T.condP rfl (fun hc => ?_) (fun hc => ?_))))))
 ·have hik : i < k.toNat := by omega
  refine T.skip (T.s (T.block (T.s (T.rg (TO.q (q_la 1 uT25 rfl inf25 rfl rfl rfl) (TO.qm rfl ?_))))))
  have hk21 := fun (w1 : World) (hI : Inv w [rowI b c 3 1 (nats (itF d i)), oI b1 25 [(vI d.vars), (vI d.start), (.slice nb d.next.length nc), (.slice fb d.final.length fc)]] w1) => (haveI := tbz hI; refineC w1 d nb fb nc fc vs (hI.dfa h) hv b c (itF d i) (hI.slOf (mG 0 rfl)) (itF_length d i) (itF_lt hn i))
  refine TO.l rfl (l_call ent103 (CallT.op hk21) rfl ?_)
  clear hk21
  rintro v O' ⟨N, rfl, b9, c9, rfl, rfl⟩
  refine TO.qa rfl (TO.nl (T.s (T.s (T.rg (TO.qm rfl (TO.qm rfl ?_))))))
  by_cases hst : refineF d (itF d i) = itF d i
  ·have hk24 := fun (w1 : World) (hI : Inv w [rowI b9 c9 3 1 (nats (refineF d (itF d i))), rowI b c 3 1 (nats (itF d i)), oI b1 25 [(vI d.vars), (vI d.start), (.slice nb d.next.length nc), (.slice fb d.final.length fc)]] w1) => (haveI := tbz hI; slicesEqual w1 b9 b c9 c d.next.length (refineF d (itF d i)) (itF d i) (hI.slOf (mG 0 rfl)) (hI.slOf (mG 1 rfl)) (itF_length d (i + 1)) (itF_length d i) (by omega))
   refine TO.l rfl (l_call ent104 (CallT.op hk24) rfl ?_)
   clear hk24
   rintro v O' ⟨N, rfl, rfl, rfl⟩
   rw [decide_eq_true hst]
   refine TO.nl ?_
   refine T.cond1 rfl ?_
   refine T.exit ?_
   refine T.s (T.rg (TO.qm rfl (TO.qa rfl (TO.qa rfl (TO.nl (T.ret (Res.drop ?_)))))))
   refine Res.two (.slice b d.next.length c) (vI 0) Tryz.results87 rfl rfl ?_
   have hx : itF d k.toNat = itF d i := itF_stable hst _ hki
   exact ⟨[rowI b c 3 1 (nats (itF d i))], (Sub.pick [1] rfl), _, _, rfl, by rw [hx]⟩
  have hk24 := fun (w1 : World) (hI : Inv w [rowI b9 c9 3 1 (nats (refineF d (itF d i))), rowI b c 3 1 (nats (itF d i)), oI b1 25 [(vI d.vars), (vI d.start), (.slice nb d.next.length nc), (.slice fb d.final.length fc)]] w1) => (haveI := tbz hI; slicesEqual w1 b9 b c9 c d.next.length (refineF d (itF d i)) (itF d i) (hI.slOf (mG 0 rfl)) (hI.slOf (mG 1 rfl)) (itF_length d (i + 1)) (itF_length d i) (by omega))
  refine TO.l rfl (l_call ent104 (CallT.op hk24) rfl ?_)
  clear hk24
  rintro v O' ⟨N, rfl, rfl, rfl⟩
  rw [decide_eq_false hst]
  refine TO.nl (T.cond0 rfl (T.skip (T.rg (TO.qm rfl (TO.qa rfl (TO.nl (T.rg (TO.q (q_inc rfl rfl (by omega)) (TO.qm rfl ?_)))))))))
  refine TO.sub (O' := [rowI b9 c9 3 1 (nats (refineF d (itF d i))), oI b1 25 [(vI d.vars), (vI d.start), (.slice nb d.next.length nc), (.slice fb d.final.length fc)]]) (Sub.pick [0, 1] rfl) ?_
  refine TO.nl ?_
  exact ⟨i + 1, by omega, b9, c9, rfl, by omega, (.of rfl)⟩
 refine T.exit ?_
 refine T.s (T.rg (TO.qm rfl (TO.qa rfl (TO.qa rfl (TO.nl (T.ret (Res.drop ?_)))))))
 refine Res.two (.slice b d.next.length c) (vI 0) Tryz.results87 rfl rfl ?_
 have hx : itF d k.toNat = itF d i := by rw [show k.toNat = i by omega]
 exact ⟨[rowI b c 3 1 (nats (itF d i))], (Sub.pick [0] rfl), _, _, rfl, by rw [hx]⟩
theorem classesBad (w : World) [Tab Tryz.prog w] (d : DFA) (nb fb : Option Addr) (nc fc : Nat) (vs : List Value) (h : DfaAt w d nb vs fb) (hb : d.next.length < 9223372036854775807) (hbr : ∀ r ∈ d.next, r.length < 9223372036854775807) (hbf : d.final.length < 9223372036854775807) (he : checkD d ≠ 0) :
  PureT Tryz.prog 66 [.agg (dfaCells d nb nc fb fc).toArray] w fun v N => v = .tuple #[nS, vI (checkD d : Int)] ∧ N = [] := by
 refine CallT.enter func66 rfl ntmps66 rfl ?_
 refine T.s (T.rg (TO.l rfl (l_box (v := (.agg #[(vI d.vars), (vI d.start), (.slice nb d.next.length nc), (.slice fb d.final.length fc)])) (cs := [(vI d.vars), (vI d.start), (.slice nb d.next.length nc), (.slice fb d.final.length fc)]) rfl rfl (fun b1 => ?_))))
 refine TO.qa rfl (TO.qa rfl (TO.nl (T.s (T.rg (TO.q (q_la 0 uT25 rfl inf25 rfl rfl rfl) (TO.q (q_fa uT25 rfl inf22 rfl rfl) (TO.q (q_lb 0 uT22 rfl rfl rfl rfl) (TO.q (q_len uT22 rfl) ?_))))))))
 have hk8 := fun (w1 : World) (hI : Inv w [oI b1 25 [(vI d.vars), (vI d.start), (.slice nb d.next.length nc), (.slice fb d.final.length fc)]] w1) => (haveI := tbz hI; roundsBad w1 d nb fb nc fc vs (hI.dfa h) hb hbr hbf he d.next.length)
 refine TO.l rfl (l_call ent87 (CallT.op hk8) rfl ?_)
 clear hk8
 rintro v O' ⟨N, rfl, rfl, rfl⟩
 refine TO.q (q_extract (vs := _) rfl rfl) (TO.q (q_extract (vs := _) rfl rfl) (TO.qa rfl (TO.qa rfl (TO.nl (T.ret (Res.drop ?_))))))
 refine Res.two nS (vI (checkD d : Int)) Tryz.results66 rfl rfl ?_
 exact ⟨[], Sub.of (List.nil_sublist _), rfl, rfl⟩
theorem classesOk (w : World) [Tab Tryz.prog w] (d : DFA) (nb fb : Option Addr) (nc fc : Nat) (vs : List Value) (h : DfaAt w d nb vs fb) (hv : Valid d) (hn : d.next.length < 10000) :
  PureT Tryz.prog 66 [.agg (dfaCells d nb nc fb fc).toArray] w fun v N => ∃ b c, v = .tuple #[.slice b d.next.length c, vI 0] ∧ N = [rowI b c 3 1 (nats (itF d d.next.length))] := by
 refine CallT.enter func66 rfl ntmps66 rfl ?_
 refine T.s (T.rg (TO.l rfl (l_box (v := (.agg #[(vI d.vars), (vI d.start), (.slice nb d.next.length nc), (.slice fb d.final.length fc)])) (cs := [(vI d.vars), (vI d.start), (.slice nb d.next.length nc), (.slice fb d.final.length fc)]) rfl rfl (fun b1 => ?_))))
 refine TO.qa rfl (TO.qa rfl (TO.nl (T.s (T.rg (TO.q (q_la 0 uT25 rfl inf25 rfl rfl rfl) (TO.q (q_fa uT25 rfl inf22 rfl rfl) (TO.q (q_lb 0 uT22 rfl rfl rfl rfl) (TO.q (q_len uT22 rfl) ?_))))))))
 have hk8 := fun (w1 : World) (hI : Inv w [oI b1 25 [(vI d.vars), (vI d.start), (.slice nb d.next.length nc), (.slice fb d.final.length fc)]] w1) => (haveI := tbz hI; roundsOk w1 d nb fb nc fc vs (hI.dfa h) hv hn d.next.length (by omega))
 refine TO.l rfl (l_call ent87 (CallT.op hk8) rfl ?_)
 clear hk8
 rintro v O' ⟨N, rfl, b, c, rfl, rfl⟩
 refine TO.q (q_extract (vs := _) rfl rfl) (TO.q (q_extract (vs := _) rfl rfl) (TO.qa rfl (TO.qa rfl (TO.nl (T.ret (Res.drop ?_))))))
 refine Res.two (.slice b d.next.length c) (vI 0) Tryz.results66 rfl rfl ?_
 exact ⟨[rowI b c 3 1 (nats (itF d d.next.length))], (Sub.pick [0] rfl), _, _, rfl, rfl⟩
end Go.Proofs.YtnpehjpookcfkaaGreatDoor


namespace Go.Proofs.YtnpehjpookcfkaaGreatDoor
open Go.Lx Go.RowKit _root_.Go.Proofs.Tryz
theorem visitHit (base : World) [Tab Tryz.prog base] (bx m : Nat) (ks : List (List UInt8)) (key : List UInt8) (hk : key ∈ ks) (hb : ks.length < 1000000) :
  CallT Tryz.prog base 106 [str key, .pointer (aD bx)] [objI bx (.cells #[.map (some m)] 129 (0, 0)), mapI str (fun n : Nat => Value.int .i64 (n : Int)) m ks.zipIdx] (fun v O' => v = vI ((ix key (add ks key) : Nat) : Int) ∧ O' = [objI bx (.cells #[.map (some m)] 129 (0, 0)), mapI str (fun n : Nat => Value.int .i64 (n : Int)) m (add ks key).zipIdx]) := by
 refine CallT.enter func106 rfl ntmps106 rfl ?_
 refine T.s (T.rg (TO.qa rfl (TO.nl (T.s (T.rg (TO.q (q_lb 0 uT129 rfl rfl rfl rfl) (TO.qm rfl (TO.q (QT.cast (q_lookupOk (a := key) uT129 inf3 (KeyOk.string uT9) rfl rfl (mG 1 rfl)) (v' := (.tuple #[vI ((ix key ks : Nat) : Int), .bool true])) (by rw [look_zip]; simp [hk])) (TO.qm rfl (TO.q (q_extract (vs := _) rfl rfl) (TO.q (q_extract (vs := _) rfl rfl) (TO.qa rfl (TO.qa rfl (TO.nl (T.s (T.s (T.rg (TO.qm rfl (TO.q (q_not rfl) (TO.nl ?_))))))))))))))))))))
 refine T.cond0 rfl (T.skip (T.s (T.rg (TO.qm rfl (TO.qa rfl (TO.nl (T.ret ?_)))))))
 refine Res.one (vI ((ix key ks : Nat) : Int)) Tryz.results106 rfl ?_
 have ha : add ks key = ks := if_pos hk
 rw [ha]; exact ⟨rfl, rfl⟩
theorem visitMiss (base : World) [Tab Tryz.prog base] (bx m : Nat) (ks : List (List UInt8)) (key : List UInt8) (hk : key ∉ ks) (hb : ks.length < 1000000) :
  CallT Tryz.prog base 106 [str key, .pointer (aD bx)] [objI bx (.cells #[.map (some m)] 129 (0, 0)), mapI str (fun n : Nat => Value.int .i64 (n : Int)) m ks.zipIdx] (fun v O' => v = vI ((ix key (add ks key) : Nat) : Int) ∧ O' = [objI bx (.cells #[.map (some m)] 129 (0, 0)), mapI str (fun n : Nat => Value.int .i64 (n : Int)) m (add ks key).zipIdx]) := by
 refine CallT.enter func106 rfl ntmps106 rfl ?_
 refine T.s (T.rg (TO.qa rfl (TO.nl (T.s (T.rg (TO.q (q_lb 0 uT129 rfl rfl rfl rfl) (TO.qm rfl (TO.q (QT.cast (q_lookupOk (a := key) uT129 inf3 (KeyOk.string uT9) rfl rfl (mG 1 rfl)) (v' := (.tuple #[vI 0, .bool false])) (by rw [look_zip]; simp [hk])) (TO.qm rfl (TO.q (q_extract (vs := _) rfl rfl) (TO.q (q_extract (vs := _) rfl rfl) (TO.qa rfl (TO.qa rfl (TO.nl (T.s (T.s (T.rg (TO.qm rfl (TO.q (q_not rfl) (TO.nl ?_))))))))))))))))))))
 refine T.cond1 rfl ?_
 refine T.s (T.rg (TO.q (q_lb 0 uT129 rfl rfl rfl rfl) (TO.q (QT.cast (q_lenMap uT129 rfl (mG 1 rfl)) (v' := vI ((ks.length : Nat) : Int)) (by simp)) (TO.qa rfl (TO.nl (T.rg (TO.q (q_lb 0 uT129 rfl rfl rfl rfl) (TO.qm rfl (TO.qm rfl (TO.l rfl (l_mapPut (a := key) (v := ks.length) 1 uT129 (KeyOk.string uT9) rfl rfl rfl rfl (by rw [zipIdx_fst]; exact hk) ?_)))))))))))
 refine TO.nl (T.s (T.rg (TO.qm rfl (TO.qa rfl (TO.nl (T.ret ?_))))))
 refine Res.one (vI ((ks.length : Nat) : Int)) Tryz.results106 rfl ?_
 have ha : add ks key = ks ++ [key] := if_neg hk
 rw [ha]
 refine ⟨by rw [ix_append_right hk]; simp [ix], ?_⟩
 rw [show (ks ++ [key]).zipIdx = ks.zipIdx ++ [(key, ks.length)] by rw [List.zipIdx_append]; simp]; rfl
theorem visit (base : World) [Tab Tryz.prog base] (bx m : Nat) (ks : List (List UInt8)) (key : List UInt8) (hb : ks.length < 1000000) :
  CallT Tryz.prog base 106 [str key, .pointer (aD bx)] [objI bx (.cells #[.map (some m)] 129 (0, 0)), mapI str (fun n : Nat => Value.int .i64 (n : Int)) m ks.zipIdx] (fun v O' => v = vI ((ix key (add ks key) : Nat) : Int) ∧ O' = [objI bx (.cells #[.map (some m)] 129 (0, 0)), mapI str (fun n : Nat => Value.int .i64 (n : Int)) m (add ks key).zipIdx]) := by
 by_cases hk : key ∈ ks
 ·exact visitHit base bx m ks key hk hb
 ·exact visitMiss base bx m ks key hk hb
theorem exploreC (base : World) [Tab Tryz.prog base] (tr : List UInt8 → Nat → List UInt8) (L B : Nat) (start : List UInt8) (fv : Value) (J : List (List UInt8) → List Lx.Item → Prop) (Good : List (List UInt8) → Prop) (hL : L ≤ 64) (hB : B ≤ 4096)
  (hn : ∀ (ks : List (List UInt8)) (s x : Nat) (O : List Lx.Item), s < ks.length → x < L → Good ks → J ks O → CallV Tryz.prog base fv [vI (s : Int), .int .u8 (x : Int)] O (fun v O' => v = str (tr (ks.getD s []) x) ∧ Good (add ks (tr (ks.getD s []) x)) ∧ J (add ks (tr (ks.getD s []) x)) O'))
  (hg : ∀ ks, Good ks → ks.length ≤ B) (O : List Lx.Item) (h0 : Good [start]) (hJ0 : J [start] O) :
  CallT Tryz.prog base 91 [vI (L : Int), vI (B : Int), str start, fv] O (fun v O' => ∃ b c qs N O1, v = .tuple #[.slice b N c, .bool true] ∧ O' = rowI b c 48 1 (vals qs) :: (itms 3 qs ++ O1) ∧ J (exN tr L start N) O1 ∧ Good (exN tr L start N) ∧ (exN tr L start N).length = N ∧ ExOk tr L (exN tr L start N) N (nums qs) ∧ ∀ i, i < N → i < (exN tr L start i).length) := by
 refine CallT.enter func91 rfl ntmps91 rfl ?_
 refine T.s (T.rg (TO.qa rfl (TO.qa rfl (TO.nl ?_))))
 refine T.scope ?_ (fun _ _ _ h => h)
 refine T.s (T.rg (TO.l rfl (l_makeMap str (fun n : Nat => Value.int .i64 (n : Int)) (fun m1 => ?_))))
 refine TO.qm rfl (TO.l rfl (l_mapInsert (a := start) (v := (0 : Nat)) 0 uT129 (KeyOk.string uT9) rfl rfl rfl rfl (by simp) ?_))
 refine TO.qm rfl (TO.l rfl (l_alloc inf129 rfl (fun b2 => ?_)))
 refine TO.l rfl (l_sb (v := (.map (some m1))) (vs := [(.map (some m1))]) 0 inf129 rfl rfl rfl rfl rfl rfl (by simp [putL]) ?_)
 refine TO.nl (T.s (T.rg (TO.q (q_makeFunc) (TO.qa rfl (TO.nl (T.s ?_))))))
 refine T.label ?_
 refine T.s (T.s (T.rg (TO.qa rfl (TO.nl (T.block (T.nilRow 48 1 ?_))))))
 refine T.loop (fun (s : Nat) ρ O => ∃ (ks : List (List UInt8)) (qs : List Rec) (ob : Option Addr) (oc : Nat) (O1 : List Lx.Item), O = ([rowI ob oc 48 1 (vals qs), oI b2 129 [(.map (some m1))], mapI str (fun n : Nat => Value.int .i64 (n : Int)) m1 ks.zipIdx] ++ (itms 3 qs ++ O1)) ∧ exN tr L start s = ks ∧ Good ks ∧ J ks O1 ∧ ExOk tr L ks s (nums qs) ∧ (∀ i, i < s → i < (exN tr L start i).length) ∧ Heads [(0, vI (L : Int)), (1, vI (B : Int)), (2, str start), (3, fv), (8, (.slice ob s oc)), (9, .bool false), (10, (.pointer (aD b2))), (11, (.func (.func 106) #[] #[(.pointer (aD b2))])), (12, vI (s : Int))] ρ) (fun s => B - s) 0 ?_ ?_
 ·exact ⟨[start], [], none, 0, O, rfl, rfl, h0, hJ0, ⟨rfl, by simp, fun i hi => absurd hi (by omega), fun i hi => absurd hi (by omega)⟩, fun i hi => absurd hi (by omega), (.of rfl)⟩
 rintro s ρ O ⟨ks, qs, ob, oc, O1, rfl, hks, hG, hJ, hE, hen, hH⟩
 obtain ⟨ρ0, rfl⟩ := hH.elim
 clear hH
 have hgl := hg _ hG
 have hql : qs.length = s := by have := hE.len; simpa using this
 refine T.s (T.s (T.rg (TO.qm rfl (TO.q (q_lb 1 uT129 rfl rfl rfl rfl) (TO.q (QT.cast (q_lenMap uT129 rfl (mG 2 rfl)) (v' := vI (ks.length : Int)) (by rw [List.length_zipIdx])) (TO.q (q_lss rfl rfl) (TO.nl (T.condP rfl (fun hc => ?_) (fun hc => ?_)))))))))
 ·have hlt22 : s < ks.length := by omega
  refine T.skip (T.s (T.block (T.s (T.rg (TO.qm rfl (TO.l rfl (l_makeSlice (m := L) uT48 inf3 rfl rfl (by omega) (by omega) (fun b3 => ?_))))))))
  refine TO.qa rfl (TO.nl (T.s (T.s (T.rg (TO.qm rfl (TO.q (q_len uT48 rfl) (TO.qm rfl (TO.nl (T.block ?_)))))))))
  refine T.loop (fun (x : Nat) ρ O => ∃ (ks2 : List (List UInt8)) (ys : List Int) (O2 : List Lx.Item), O = ([rowI (aD b3) L 3 1 (ints ys), rowI ob oc 48 1 (vals qs), oI b2 129 [(.map (some m1))], mapI str (fun n : Nat => Value.int .i64 (n : Int)) m1 ks2.zipIdx] ++ (itms 3 qs ++ O2)) ∧ x ≤ L ∧ ys.length = L ∧ Good ks2 ∧ J ks2 O2 ∧ ks2 = ((List.range x).map (tr (ks.getD s []))).foldl add ks ∧ (∀ i, i < x → ys[i]? = some ((ix (tr (ks.getD s []) i) ks2 : Nat) : Int)) ∧ Heads [(0, vI (L : Int)), (1, vI (B : Int)), (2, str start), (3, fv), (8, (.slice ob s oc)), (9, .bool false), (10, (.pointer (aD b2))), (11, (.func (.func 106) #[] #[(.pointer (aD b2))])), (12, vI (s : Int)), (13, (.slice (aD b3) L L)), (28, vI (L : Int)), (29, vI (x : Int))] ρ) (fun x => L - x) 0 ?_ ?_
  ·exact ⟨ks, List.replicate L 0, O1, by simp, Nat.zero_le _, by simp, hG, hJ, rfl, fun i hi => absurd hi (by omega), (.of rfl)⟩
  rintro x ρ O ⟨ks2, ys, O2, rfl, hx, hyl, hG2, hJ2, hk2, hys, hH⟩
  obtain ⟨ρ0, rfl⟩ := hH.elim
  clear hH
  have hgl2 := hg _ hG2
  have hpre : ks <+: ks2 := hk2 ▸ foldl_prefix _ _
  have hks2 : ks2.getD s [] = ks.getD s [] := prefix_getD hpre hlt22
  have hple := hpre.length_le
  refine T.s (T.rg (TO.q (q_lss rfl rfl) (TO.nl (T.s (T.condP rfl (fun hc => ?_) (fun hc => ?_))))))
  ·have hlt30 : x < L := by omega
   refine T.skip (T.s (T.block (T.s (T.rg (TO.qm rfl (TO.qa rfl (TO.nl (T.s (T.rg (TO.qm rfl (TO.qm rfl (TO.qm rfl (TO.qm rfl (TO.qm rfl (TO.qm rfl (TO.q (q_conv_id uT3 uT5 rfl (show IntKind.u8.wrap (x : Int) = (x : Int) by unfold IntKind.wrap; simp [IntKind.bits, IntKind.signed]; omega)) ?_))))))))))))))))
   have hk39 := CallV.under (B := [rowI (aD b3) L 3 1 (ints ys), rowI ob oc 48 1 (vals qs), oI b2 129 [(.map (some m1))], mapI str (fun n : Nat => Value.int .i64 (n : Int)) m1 ks2.zipIdx] ++ itms 3 qs) (O := ([rowI (aD b3) L 3 1 (ints ys), rowI ob oc 48 1 (vals qs), oI b2 129 [(.map (some m1))], mapI str (fun n : Nat => Value.int .i64 (n : Int)) m1 ks2.zipIdx] ++ (itms 3 qs ++ O2))) (hn ks2 s x O2 (by omega) hlt30 hG2 hJ2) (Sub.ca [])
   refine TO.l rfl (l_callG hk39 rfl rfl ?_)
   clear hk39
   rintro v O' ⟨O3, rfl, rfl, hG3, hJ3⟩
   refine TO.sub (O' := ([rowI (aD b3) L 3 1 (ints ys), rowI ob oc 48 1 (vals qs), oI b2 129 [(.map (some m1))], mapI str (fun n : Nat => Value.int .i64 (n : Int)) m1 ks2.zipIdx] ++ (itms 3 qs ++ O3))) (Sub.ca []) ?_
   rw [hks2] at hG3 hJ3 ⊢
   have hk40 := CallV.of_fn (first := []) (args := [str (tr (ks.getD s []) x)]) (caps := [(.pointer (aD b2))]) ent106 (CallT.under (B := [rowI (aD b3) L 3 1 (ints ys), rowI ob oc 48 1 (vals qs)] ++ (itms 3 qs ++ O3)) (O := ([rowI (aD b3) L 3 1 (ints ys), rowI ob oc 48 1 (vals qs), oI b2 129 [(.map (some m1))], mapI str (fun n : Nat => Value.int .i64 (n : Int)) m1 ks2.zipIdx] ++ (itms 3 qs ++ O3))) (visit base b2 m1 ks2 (tr (ks.getD s []) x) (by have := hg _ hG2; omega)) (Sub.pickR [2, 2, 0, 0] [rowI (aD b3) L 3 1 (ints ys), rowI ob oc 48 1 (vals qs), oI b2 129 [(.map (some m1))], mapI str (fun n : Nat => Value.int .i64 (n : Int)) m1 ks2.zipIdx] (itms 3 qs ++ O3) rfl rfl))
   refine TO.l rfl (l_callG hk40 rfl rfl ?_)
   clear hk40
   rintro v O' ⟨A1, rfl, rfl, rfl⟩
   refine TO.sub (O' := ([rowI (aD b3) L 3 1 (ints ys), rowI ob oc 48 1 (vals qs), oI b2 129 [(.map (some m1))], mapI str (fun n : Nat => Value.int .i64 (n : Int)) m1 ((add ks2 (tr (ks.getD s []) x)).zipIdx)] ++ (itms 3 qs ++ O3))) (Sub.pickR [2, 2, 0, 0] [oI b2 129 [(.map (some m1))], mapI str (fun n : Nat => Value.int .i64 (n : Int)) m1 ((add ks2 (tr (ks.getD s []) x)).zipIdx), rowI (aD b3) L 3 1 (ints ys), rowI ob oc 48 1 (vals qs)] (itms 3 qs ++ O3) rfl rfl) ?_
   refine TO.q (q_ix (i := x) uT48 inf3 rfl rfl (rowO (mG 0 rfl))) (TO.l rfl (l_st (j := x) (v := vI ((ix (tr (ks.getD s []) x) (add ks2 (tr (ks.getD s []) x)) : Nat) : Int)) (vs := [(vI ((ix (tr (ks.getD s []) x) (add ks2 (tr (ks.getD s []) x)) : Nat) : Int))]) (cs := ints ys) 0 inf3 rfl rfl rfl rfl rfl (by simp) rfl (by first | (simp; omega) | (simp_all; omega)) ?_))
   refine TO.sub (O' := ([rowI (aD b3) L 3 1 (ints (ys.set x ((ix (tr (ks.getD s []) x) (add ks2 (tr (ks.getD s []) x)) : Nat) : Int))), rowI ob oc 48 1 (vals qs), oI b2 129 [(.map (some m1))], mapI str (fun n : Nat => Value.int .i64 (n : Int)) m1 ((add ks2 (tr (ks.getD s []) x)).zipIdx)] ++ (itms 3 qs ++ O3))) (by rw [show putL (ints ys) x [(vI ((ix (tr (ks.getD s []) x) (add ks2 (tr (ks.getD s []) x)) : Nat) : Int))] = ints (ys.set x ((ix (tr (ks.getD s []) x) (add ks2 (tr (ks.getD s []) x)) : Nat) : Int)) from by simp [putL]]; exact Sub.of (List.Sublist.refl _)) ?_
   refine TO.nl (T.s (T.rg (TO.q (q_lb 2 uT129 rfl rfl rfl rfl) (TO.q (QT.cast (q_lenMap uT129 rfl (mG 3 rfl)) (v' := vI ((add ks2 (tr (ks.getD s []) x)).length : Int)) (by rw [List.length_zipIdx])) (TO.qm rfl (TO.q (q_gtr rfl rfl) (TO.nl (T.condP rfl (fun hc => ?_) (fun hc => ?_)))))))))
   ·exact absurd hc (by have := hg _ hG3; omega)
   have hge45 : ¬ (add ks2 (tr (ks.getD s []) x)).length > B := by omega
   refine T.skip (T.rg (TO.q (q_inc rfl rfl (by omega)) (TO.qm rfl (TO.nl ?_))))
   have hmm : ∀ y, y < x → tr (ks.getD s []) y ∈ ks2 := fun y hy => by rw [hk2, mem_foldl_add]; exact .inr (List.mem_map_of_mem (List.mem_range.2 hy))
   refine ⟨x + 1, by omega, add ks2 (tr (ks.getD s []) x), ys.set x ((ix (tr (ks.getD s []) x) (add ks2 (tr (ks.getD s []) x)) : Nat) : Int), O3, rfl, by omega, by simp [hyl], hG3, hJ3, by rw [foldl_add_snoc, ← hk2], fun i hi => ?_, (.of rfl)⟩
   by_cases e : i = x
   ·subst e; rw [List.getElem?_set_self (by omega)]
   ·rw [List.getElem?_set_ne (fun h => e h.symm), hys i (by omega), ix_prefix (add_prefix _ _) (hmm i (by omega))]
  have hge30 : ¬ x < L := by omega
  refine T.exit ?_
  refine T.rg (TO.qm rfl (TO.qm rfl (TO.l rfl (l_build1 (v := (.slice (aD b3) L L)) uT22 inf48 rfl rfl rfl (fun b4 => ?_)))))
  refine TO.l rfl (l_append 2 uT22 uT22 inf48 rfl rfl rfl rfl (by simp [hql]) (by decide) (Src.row (j := 0) rfl (by simp)) (by simp [oneB]) (by omega) (by decide) (by decide) (fun b5 c6 => ?_))
  refine TO.qa rfl (TO.nl ?_)
  refine T.sub (O' := [rowI b5 c6 48 1 (vals (qs ++ [⟨(aD b3), L, ys⟩])), oI b2 129 [(.map (some m1))], mapI str (fun n : Nat => Value.int .i64 (n : Int)) m1 ks2.zipIdx] ++ (itms 3 (qs ++ [⟨(aD b3), L, ys⟩]) ++ O2)) (by
   rw [show vals (qs ++ [⟨(aD b3), L, ys⟩]) = (vals qs) ++ [(.slice (aD b3) L L)] by simp [Rec.val, hyl]]
   exact Sub.cnt [rowI (aD b4) 1 48 1 [(.slice (aD b3) L L)]] (by intro a; simp only [List.set_cons_zero, List.set_cons_succ, itms, List.map_append, List.map_cons, List.map_nil, Rec.itm, cnt_append, cnt_cons, cnt_nil, vI, nS, aD, List.cons_append, List.nil_append, List.append_assoc, List.append_nil] <;> omega)) ?_
  refine T.rg (TO.qm rfl (TO.q (q_inc rfl rfl (by omega)) (TO.qa rfl (TO.nl ?_))))
  have hxL : x = L := by omega
  have hmm : ∀ y, y < L → tr (ks.getD s []) y ∈ ks2 := fun y hy => by rw [hk2, mem_foldl_add]; exact .inr (List.mem_map_of_mem (List.mem_range.2 (by omega)))
  have hyr : ys = exRow tr L ks2 s := by
   apply List.ext_getElem?
   intro i
   by_cases hi : i < L
   ·rw [hys i (by omega)]; simp only [exRow, hks2]; simp [hi]
   ·rw [List.getElem?_eq_none (by omega), List.getElem?_eq_none (by simp [exRow]; omega)]
  have hE2 : ExOk tr L ks2 (s + 1) (nums (qs ++ [⟨(aD b3), L, ys⟩])) := by
   have := hE.snoc hpre hlt22 hyr (by rw [hks2]; exact hmm)
   simpa [nums] using this
  have hen2 : ∀ i, i < s + 1 → i < (exN tr L start i).length := fun i hi => by
   by_cases e : i = s
   ·subst e; rw [hks]; exact hlt22
   ·exact hen i (by omega)
  exact ⟨s + 1, by omega, ks2, qs ++ [⟨(aD b3), L, ys⟩], b5, c6, O2, rfl, by rw [exN, hks, hk2, hxL], hG2, hJ2, hE2, hen2, (.of rfl)⟩
 have hge22 : ¬ s < ks.length := by omega
 refine T.exit ?_
 refine T.s (T.rg (TO.qm rfl (TO.q (q_lb 1 uT129 rfl rfl rfl rfl) (TO.q (QT.cast (q_lenMap uT129 rfl (mG 2 rfl)) (v' := vI (ks.length : Int)) (by rw [List.length_zipIdx])) (TO.qm rfl (TO.q (QT.toB (q_leq rfl rfl) (decide_eq_true (by have := hg _ hG; omega))) (TO.qa rfl (TO.qa rfl (TO.nl (T.ret (Res.drop ?_)))))))))))
 refine Res.two (.slice ob s oc) (.bool true) Tryz.results91 rfl rfl ?_
 have hN : ks.length = s := by have := hE.le; omega
 exact ⟨_, (Sub.pickR [0] [rowI ob oc 48 1 (vals qs), oI b2 129 [(.map (some m1))], mapI str (fun n : Nat => Value.int .i64 (n : Int)) m1 ks.zipIdx] (itms 3 qs ++ O1) rfl rfl), ob, oc, qs, s, O1, rfl, rfl, by rw [hks]; exact hJ, by rw [hks]; exact hG, by rw [hks]; exact hN, by rw [hks]; exact hE, hen⟩
theorem nextC (base : World) [Tab Tryz.prog base] (d : DFA) (nb fb : Option Addr) (nc fc : Nat) (vs : List Value) (h : DfaAt base d nb vs fb) (hv : Valid d) (hn : d.next.length < 10000) (b1 b2 b3 : Nat) (os : List Nat) (sn : List Bool) (ob sb : Option Addr) (oc sc sc2 s x : Nat) (hs : s < os.length) (hx : x < 2 ^ d.vars.toNat) (hos : ∀ o ∈ os, o < d.next.length) (hnd : os.Nodup) (hsl : sn.length = d.next.length) (hsn : ∀ t, t < d.next.length → sn[t]? = some (decide (t ∈ os))) :
  CallT Tryz.prog base 89 ([vI (s : Int), .int .u8 (x : Int)] ++ [.pointer (aD b1), .pointer (aD b2), .pointer (aD b3)])
   [oI b1 25 [(vI d.vars), (vI d.start), (.slice nb d.next.length nc), (.slice fb d.final.length fc)], oI b2 48 [(.slice ob os.length oc)], rowI ob oc 3 1 (nats os), oI b3 23 [(.slice sb d.next.length sc)], rowI sb sc2 4 1 (bools sn)]
   (fun v O' => v = str (Lib.decDigits (toN d os[s] x)) ∧ ∃ ob' oc' sn', sn'.length = d.next.length ∧ (∀ t, t < d.next.length → sn'[t]? = some (decide (t ∈ add os (toN d os[s] x)))) ∧ O' = [oI b1 25 [(vI d.vars), (vI d.start), (.slice nb d.next.length nc), (.slice fb d.final.length fc)], oI b2 48 [(.slice ob' ((add os (toN d os[s] x)).length) oc')], rowI ob' oc' 3 1 (nats (add os (toN d os[s] x))), oI b3 23 [(.slice sb d.next.length sc)], rowI sb sc2 4 1 (bools sn')]) := by
 refine CallT.enter func89 rfl ntmps89 rfl ?_
 obtain ⟨o, hso⟩ : ∃ o, os[s] = o := ⟨_, rfl⟩
 have hso2 : os[s]? = some o := by rw [List.getElem?_eq_getElem hs, hso]
 have ho : o < d.next.length := hso ▸ hos _ (List.getElem_mem hs)
 obtain ⟨t, ht⟩ : ∃ t, toN d o x = t := ⟨_, rfl⟩
 obtain ⟨htn, _, hxr, hdx⟩ := hv.toN_lt ho hx
 rw [ht] at htn hdx
 rw [hso, ht]
 have hvl := h.rows.1
 have hw := hv.width
 obtain ⟨vb, vc, g1, s1⟩ := h.rows.get ho
 have hxt : (ints d.next[o])[x]? = some (vI ((t : Nat) : Int)) := by rw [ints_get hxr, hdx]
 have hol := nodup_bound hnd hos
 have hst := hsn t htn
 have htl : t < sn.length := by omega
 refine T.s (T.rg (TO.qa rfl (TO.nl (T.s ?_))))
 refine T.draws _ [(0, 0), (1, 0), (2, 0), (3, 0), (4, 0), (5, 0), (6, 0), (7, 0), (8, 0), (9, 0), (10, 0), (11, 0)] mixed (drawF_ok (by kernel_rfl)) (Sub.of (List.Sublist.refl _)) (fun _ _ _ h => h) ?_
 refine DO.q rfl (q_fa uT25 rfl inf22 rfl rfl) (DO.q rfl (q_lb 0 uT22 rfl rfl rfl rfl) (DO.q rfl (q_lb 1 uT48 rfl rfl rfl rfl) (DO.q rfl (q_move rfl) ?_)))
 refine DO.q rfl (q_ix (i := s) uT48 inf3 rfl rfl (rowO (mG 2 rfl)) hs (by rw [List.length_map]; exact hs)) (DO.q rfl (q_ld uT3 rfl rfl (rowO (mG 2 rfl)) (show (nats os)[s]? = some (vI ((o : Nat) : Int)) by rw [List.getElem?_map, hso2]; rfl)) (DO.q rfl (q_ix (i := o) uT22 inf48 rfl rfl (Sl.o h.outer) ho) (DO.q rfl (q_ld uT48 rfl rfl (Sl.o h.outer) g1) ?_)))
 refine DO.q rfl (q_move rfl) (DO.q rfl (q_ix (i := x) uT48 inf3 rfl rfl (Sl.o s1) hxr (by rw [List.length_map]; exact hxr)) (DO.q rfl (q_ld uT3 rfl rfl (Sl.o s1) hxt) (DO.q rfl (q_assign rfl) ?_)))
 refine DO.done ?_
 refine T.s (T.s (T.rg ?_))
 refine TO.q (q_lb 3 uT23 rfl rfl rfl rfl) (TO.qm rfl (TO.q (q_ix (i := t) uT23 inf4 rfl rfl (rowO (mG 4 rfl)) htn (by rw [List.length_map]; exact htl)) (TO.q (q_ld uT4 rfl rfl (rowO (mG 4 rfl)) (show (bools sn)[t]? = some (.bool (decide (t ∈ os))) by rw [List.getElem?_map, hst]; rfl)) ?_)))
 refine TO.q (q_not rfl) (TO.nl (T.condP (p := t ∉ os) (congrArg Value.bool (by simp)) (fun hc => ?_) (fun hc => ?_)))
 ·refine T.draws2 [oI b1 25 [(vI d.vars), (vI d.start), (.slice nb d.next.length nc), (.slice fb d.final.length fc)], oI b3 23 [(.slice sb d.next.length sc)], rowI sb sc2 4 1 (bools sn)] [oI b2 48 [(.slice ob os.length oc)]] [(0, 0), (1, 0), (2, 3), (3, 0), (4, 1), (5, 1), (6, 4), (7, 0), (8, 2)] mixed (by kernel_rfl) (Sub.pick [0, 2, 2] rfl) (Sub.pick [1] rfl) (fun _ _ _ h => h) ?_
  refine DO.q rfl (q_lb 1 uT23 rfl rfl rfl rfl) (DO.q rfl (q_move rfl) ?_)
  refine DO.quiet2 rfl (q_lb 0 uT48 rfl rfl rfl rfl) ?_
  refine DO.q rfl (q_move rfl) ?_
  refine DO.loud2 rfl rfl (l_build1 (v := vI ((t : Nat) : Int)) uT48 inf3 rfl rfl rfl (fun z1 => ⟨Sub.pick [1, 3, 3] rfl, Sub.pick [2] rfl, ?_⟩))
  refine DO.loud2 rfl rfl (l_append 3 uT48 uT48 inf3 rfl rfl rfl rfl (by simp) (by decide) (Src.row (j := 0) rfl (by simp)) (by simp [oneB]) (by omega) (by decide) (by decide) (fun z2 zc3 => ⟨Sub.pick [1, 3, 3] rfl, Sub.pick [2] rfl, ?_⟩))
  refine DO.last2 rfl rfl (l_sb (v := (.slice z2 (os.length + 1) zc3)) (vs := [(.slice z2 (os.length + 1) zc3)]) 2 inf48 rfl rfl rfl rfl rfl rfl (by simp [putL]) ⟨Sub.pick [1, 3, 3] rfl, ?_⟩)
  refine DO.q rfl (q_ix (i := t) uT23 inf4 rfl rfl (rowO (mG 2 rfl)) htn (by rw [List.length_map]; exact htl)) ?_
  refine DO.last rfl rfl (l_st (j := t) (v := .bool true) (vs := [(.bool true)]) (cs := bools sn) 5 inf4 rfl rfl rfl rfl rfl (by simp) rfl (by first | (simp; omega) | (simp_all; omega)) ?_)
  refine DO.sub (O' := [rowI (aD z1) 1 3 1 [vI ((t : Nat) : Int)], oI b1 25 [(vI d.vars), (vI d.start), (.slice nb d.next.length nc), (.slice fb d.final.length fc)], oI b2 48 [(.slice z2 (os.length + 1) zc3)], rowI z2 zc3 3 1 ((nats os) ++ [vI ((t : Nat) : Int)]), oI b3 23 [(.slice sb d.next.length sc)], rowI sb sc2 4 1 (bools (sn.set t true))]) (by rw [show putL (bools sn) t [(.bool true)] = bools (sn.set t true) from by simp [putL]]; exact Sub.of (List.Sublist.refl _)) ?_
  refine DO.done ?_
  refine T.s (T.rg (TO.qm rfl ?_))
  have hk33 := fun (w1 : World) (hI : Inv base [rowI (aD z1) 1 3 1 [vI ((t : Nat) : Int)], oI b1 25 [(vI d.vars), (vI d.start), (.slice nb d.next.length nc), (.slice fb d.final.length fc)], oI b2 48 [(.slice z2 (os.length + 1) zc3)], rowI z2 zc3 3 1 ((nats os) ++ [vI ((t : Nat) : Int)]), oI b3 23 [(.slice sb d.next.length sc)], rowI sb sc2 4 1 (bools (sn.set t true))] w1) => (haveI := tbz hI; itoaF w1 t (by omega))
  refine TO.l rfl (l_call ent90 (CallT.op hk33) rfl ?_)
  clear hk33
  rintro v O' ⟨N, rfl, rfl, rfl⟩
  refine TO.qa rfl (TO.nl (T.ret (Res.drop ?_)))
  refine Res.one (str (Lib.decDigits t)) Tryz.results89 rfl ?_
  have ha : add os t = os ++ [t] := if_neg hc
  refine ⟨[oI b1 25 [(vI d.vars), (vI d.start), (.slice nb d.next.length nc), (.slice fb d.final.length fc)], oI b2 48 [(.slice z2 (os.length + 1) zc3)], rowI z2 zc3 3 1 ((nats os) ++ [vI ((t : Nat) : Int)]), oI b3 23 [(.slice sb d.next.length sc)], rowI sb sc2 4 1 (bools (sn.set t true))], (Sub.pick [1, 1, 1, 1, 1] rfl), rfl, z2, zc3, sn.set t true, by simp [hsl], fun t2 ht2 => ?_, ?_⟩
  ·rw [ha]
   by_cases e : t2 = t
   ·subst e; rw [List.getElem?_set_self htl]; simp
   ·rw [List.getElem?_set_ne (fun h => e h.symm), hsn t2 ht2]; simp [e]
  ·rw [ha, List.length_append, show nats (os ++ [t]) = nats os ++ [vI ((t : Nat) : Int)] from List.map_append]; rfl
 refine T.skip (T.s (T.rg (TO.qm rfl ?_)))
 have hk33 := fun (w1 : World) (hI : Inv base [oI b1 25 [(vI d.vars), (vI d.start), (.slice nb d.next.length nc), (.slice fb d.final.length fc)], oI b2 48 [(.slice ob os.length oc)], rowI ob oc 3 1 (nats os), oI b3 23 [(.slice sb d.next.length sc)], rowI sb sc2 4 1 (bools sn)] w1) => (haveI := tbz hI; itoaF w1 t (by omega))
 refine TO.l rfl (l_call ent90 (CallT.op hk33) rfl ?_)
 clear hk33
 rintro v O' ⟨N, rfl, rfl, rfl⟩
 refine TO.qa rfl (TO.nl (T.ret (Res.drop ?_)))
 refine Res.one (str (Lib.decDigits t)) Tryz.results89 rfl ?_
 have ha : add os t = os := if_pos (Classical.not_not.1 hc)
 refine ⟨[oI b1 25 [(vI d.vars), (vI d.start), (.slice nb d.next.length nc), (.slice fb d.final.length fc)], oI b2 48 [(.slice ob os.length oc)], rowI ob oc 3 1 (nats os), oI b3 23 [(.slice sb d.next.length sc)], rowI sb sc2 4 1 (bools sn)], (Sub.pick [0, 0, 0, 0, 0] rfl), rfl, ob, oc, sn, hsl, fun t2 ht2 => ?_, ?_⟩
 ·rw [ha]; exact hsn t2 ht2
 ·rw [ha]
def RenJ (d : DFA) (nb fb : Option Addr) (nc fc b1 bB bC bD : Nat) (ks : List (List UInt8)) (O : List Lx.Item) : Prop :=
 ∃ (os : List Nat) (sn : List Bool) (ob : Option Addr) (oc : Nat), ks = os.map Lib.decDigits ∧ O = [objI b1 (.cells (List.toArray [(vI d.vars), (vI d.start), (.slice nb d.next.length nc), (.slice fb d.final.length fc)]) 25 (0, 0)), objI bC (.cells (List.toArray [(.slice ob os.length oc)]) 48 (0, 0)), rowI ob oc 3 1 (nats os), objI bD (.cells (List.toArray [(.slice (aD bB) d.next.length d.next.length)]) 23 (0, 0)), rowI (aD bB) d.next.length 4 1 (bools sn)] ∧ os.Nodup ∧ (∀ o ∈ os, o < d.next.length) ∧ sn.length = d.next.length ∧ (∀ t, t < d.next.length → sn[t]? = some (decide (t ∈ os)))
set_option maxRecDepth 20000 in
theorem nextV (base : World) [Tab Tryz.prog base] (d : DFA) (nb fb : Option Addr) (nc fc : Nat) (vs : List Value) (h : DfaAt base d nb vs fb) (hv : Valid d) (hn : d.next.length < 10000) (b1 bB bC bD : Nat) (ks : List (List UInt8)) (s x : Nat) (O : List Lx.Item) (hs : s < ks.length) (hx : x < 2 ^ d.vars.toNat) (hJ : RenJ d nb fb nc fc b1 bB bC bD ks O) :
  CallV Tryz.prog base (.func (.func 89) #[] #[.pointer (aD b1), .pointer (aD bC), .pointer (aD bD)]) [vI (s : Int), .int .u8 (x : Int)] O
   (fun v O' => v = str (trD d (ks.getD s []) x) ∧ (add ks (trD d (ks.getD s []) x)).length ≤ d.next.length ∧ RenJ d nb fb nc fc b1 bB bC bD (add ks (trD d (ks.getD s []) x)) O') := by
 obtain ⟨os, sn, ob, oc, rfl, rfl, hnd, hos, hsl, hsn⟩ := hJ
 have hs' : s < os.length := by simpa using hs
 have e : (os.map Lib.decDigits).getD s [] = Lib.decDigits os[s] := by simp [hs']
 have e2 : trD d ((os.map Lib.decDigits).getD s []) x = Lib.decDigits (toN d os[s] x) := by rw [e, trD, undec_dec]
 have hT := (hv.toN_lt (hos _ (List.getElem_mem hs')) hx).1
 have hos2 : ∀ o ∈ add os (toN d os[s] x), o < d.next.length := fun o ho => by
  rcases mem_add.1 ho with ho | ho
  ·exact hos o ho
  ·rw [ho]; exact hT
 refine CallV.mono (CallV.of_fn (first := []) (caps := [.pointer (aD b1), .pointer (aD bC), .pointer (aD bD)]) ent89 (nextC base d nb fb nc fc vs h hv hn b1 bC bD os sn ob (aD bB) oc d.next.length d.next.length s x hs' hx hos hnd hsl hsn)) ?_
 rintro v O' ⟨rfl, ob', oc', sn', h1, h2, rfl⟩
 rw [e2, ← map_add dec_inj]
 refine ⟨rfl, ?_, add os (toN d os[s] x), sn', ob', oc', rfl, rfl, add_nodup hnd, hos2, h1, h2⟩
 rw [List.length_map]; exact nodup_bound (add_nodup hnd) hos2
end Go.Proofs.YtnpehjpookcfkaaGreatDoor


namespace Go.Proofs.YtnpehjpookcfkaaGreatDoor
open Go.Lx Go.RowKit _root_.Go.Proofs.Tryz
theorem renumOk (w : World) [Tab Tryz.prog w] (d : DFA) (nb fb : Option Addr) (nc fc : Nat) (vs : List Value) (h : DfaAt w d nb vs fb) (hv : Valid d) (hn : d.next.length < 10000) :
  PureT Tryz.prog 68 [.agg (dfaCells d nb nc fb fc).toArray] w fun v N => ∃ nb' nc' fb' fc' qs, v = .tuple #[.agg (dfaCells (renum d) nb' nc' fb' fc').toArray, vI 0] ∧ N = [rowI nb' nc' 48 1 (vals qs), rowI fb' fc' 4 1 (bools (renum d).final)] ++ itms 3 qs ∧ nums qs = (renum d).next := by
 refine CallT.enter func68 rfl ntmps68 rfl ?_
 have he := checkD_zero.2 hv
 have hb : d.next.length < 9223372036854775807 := by omega
 have hbr : ∀ r ∈ d.next, r.length < 9223372036854775807 := hv.bound
 have hbf : d.final.length < 9223372036854775807 := by have := hv.fin; omega
 have hn0 := hv.n0
 have hs0 := hv.s0
 have hs1 := hv.s1
 have hsn : d.start.toNat < d.next.length := by omega
 refine T.s (T.rg (TO.l rfl (l_box (v := (.agg #[(vI d.vars), (vI d.start), (.slice nb d.next.length nc), (.slice fb d.final.length fc)])) (cs := [(vI d.vars), (vI d.start), (.slice nb d.next.length nc), (.slice fb d.final.length fc)]) rfl rfl (fun z1 => ?_))))
 refine TO.l rfl (l_alloc inf25 rfl (fun z2 => ?_))
 refine TO.qa rfl (TO.nl (T.s (T.s (T.rg (TO.q (q_la 1 uT25 rfl inf25 rfl rfl rfl) ?_)))))
 have hk11 := fun (w1 : World) (hI : Inv w [oI z2 25 [(vI 0), (vI 0), nS, nS], oI z1 25 [(vI d.vars), (vI d.start), (.slice nb d.next.length nc), (.slice fb d.final.length fc)]] w1) => (haveI := tbz hI; subsetCheck w1 d nb fb nc fc vs (hI.dfa h) hb hbr hbf)
 refine TO.l rfl (l_call ent33 (CallT.op hk11) rfl ?_)
 clear hk11
 rintro v O' ⟨N, rfl, rfl, rfl⟩
 rw [he]
 refine TO.qa rfl (TO.nl (T.s (T.rg (TO.qm rfl (TO.q (q_neq rfl rfl) (TO.nl (T.cond0 rfl (T.skip ?_))))))))
 refine T.cut (fun ρ O => ∃ (bA bB bC bD : Nat), O = [oI bC 48 [(.slice (aD bA) 1 1)], oI bD 23 [(.slice (aD bB) d.next.length d.next.length)], rowI (aD bA) 1 3 1 [(vI d.start)], rowI (aD bB) d.next.length 4 1 (List.replicate d.next.length (.bool false)), oI z2 25 [(vI 0), (vI 0), nS, nS], oI z1 25 [(vI d.vars), (vI d.start), (.slice nb d.next.length nc), (.slice fb d.final.length fc)]] ∧ Heads [(0, (.agg #[(vI d.vars), (vI d.start), (.slice nb d.next.length nc), (.slice fb d.final.length fc)])), (1, (.pointer (aD z1))), (2, (.pointer (aD z2))), (3, vI 0), (4, vI ((0 : Nat) : Int)), (5, (.pointer (aD bC))), (6, (.pointer (aD bD)))] ρ) ?_ ?_
 ·refine T.tree [oI z1 25 [(vI d.vars), (vI d.start), (.slice nb d.next.length nc), (.slice fb d.final.length fc)]] 11 mixed rfl (Sub.pick [1] rfl) (fun _ _ _ h => h) ?_
  refine RO.quietT 0 rfl (by kernel_rfl) (q_fa uT25 rfl inf3 rfl rfl) ?_
  refine RO.quietT 1 rfl (by kernel_rfl) (q_lb 0 uT3 rfl rfl rfl rfl) ?_
  refine RO.quietT 3 rfl (by kernel_rfl) (q_fa uT25 rfl inf22 rfl rfl) ?_
  refine RO.quietT 4 rfl (by kernel_rfl) (q_lb 0 uT22 rfl rfl rfl rfl) ?_
  refine RO.quietT 5 rfl (by kernel_rfl) (q_len uT22 rfl) ?_
  refine RO.fork [2, 6, 7, 8] (by kernel_rfl) rfl ⟨⟨_, rfl, rfl, l_build1 (v := (vI d.start)) uT48 inf3 rfl rfl rfl (fun bA => ⟨Sub.pick [2] rfl, ?_⟩)⟩, ⟨_, rfl, rfl, l_makeSlice (m := d.next.length) uT23 inf4 rfl rfl (by omega) (by omega) (fun bB => ⟨Sub.pick [2] rfl, ?_⟩)⟩, ⟨_, rfl, rfl, l_alloc inf48 rfl (fun bC => ⟨Sub.pick [2] rfl, ?_⟩)⟩, ⟨_, rfl, rfl, l_alloc inf23 rfl (fun bD => ⟨Sub.pick [2] rfl, ?_⟩)⟩, trivial⟩
  ·refine RO.fork [6, 7, 8] (by kernel_rfl) rfl ⟨⟨_, rfl, rfl, l_makeSlice (m := d.next.length) uT23 inf4 rfl rfl (by omega) (by omega) (fun bB => ⟨Sub.pick [3] rfl, ?_⟩)⟩, ⟨_, rfl, rfl, l_alloc inf48 rfl (fun bC => ⟨Sub.pick [3] rfl, ?_⟩)⟩, ⟨_, rfl, rfl, l_alloc inf23 rfl (fun bD => ⟨Sub.pick [3] rfl, ?_⟩)⟩, trivial⟩
   ·refine RO.fork [7, 8] (by kernel_rfl) rfl ⟨⟨_, rfl, rfl, l_alloc inf48 rfl (fun bC => ⟨Sub.pick [4] rfl, ?_⟩)⟩, ⟨_, rfl, rfl, l_alloc inf23 rfl (fun bD => ⟨Sub.pick [4] rfl, ?_⟩)⟩, trivial⟩
    ·refine RO.fork [8] (by kernel_rfl) rfl ⟨⟨_, rfl, rfl, l_alloc inf23 rfl (fun bD => ⟨Sub.pick [5] rfl, ?_⟩)⟩, trivial⟩
     refine RO.fork [9] (by kernel_rfl) rfl ⟨⟨_, rfl, rfl, l_sb (v := (.slice (aD bA) 1 1)) (vs := [(.slice (aD bA) 1 1)]) 1 inf48 rfl rfl rfl rfl rfl rfl (by simp [putL]) ⟨Sub.pick [5] rfl, ?_⟩⟩, trivial⟩
     refine RO.fork [10] (by kernel_rfl) rfl ⟨⟨_, rfl, rfl, l_sb (v := (.slice (aD bB) d.next.length d.next.length)) (vs := [(.slice (aD bB) d.next.length d.next.length)]) 0 inf23 rfl rfl rfl rfl rfl rfl (by simp [putL]) ⟨Sub.pick [5] rfl, ?_⟩⟩, trivial⟩
     exact RO.fin (by kernel_rfl) ⟨bA, bB, bC, bD, rfl, (.of rfl)⟩ (Sub.pick [1, 0, 1, 0, 0, 0] rfl)
    refine RO.fork [7] (by kernel_rfl) rfl ⟨⟨_, rfl, rfl, l_alloc inf48 rfl (fun bC => ⟨Sub.pick [5] rfl, ?_⟩)⟩, trivial⟩
    refine RO.fork [9] (by kernel_rfl) rfl ⟨⟨_, rfl, rfl, l_sb (v := (.slice (aD bA) 1 1)) (vs := [(.slice (aD bA) 1 1)]) 0 inf48 rfl rfl rfl rfl rfl rfl (by simp [putL]) ⟨Sub.pick [5] rfl, ?_⟩⟩, trivial⟩
    refine RO.fork [10] (by kernel_rfl) rfl ⟨⟨_, rfl, rfl, l_sb (v := (.slice (aD bB) d.next.length d.next.length)) (vs := [(.slice (aD bB) d.next.length d.next.length)]) 1 inf23 rfl rfl rfl rfl rfl rfl (by simp [putL]) ⟨Sub.pick [5] rfl, ?_⟩⟩, trivial⟩
    exact RO.fin (by kernel_rfl) ⟨bA, bB, bC, bD, rfl, (.of rfl)⟩ (Sub.pick [0, 0, 1, 0, 0, 0] rfl)
   ·refine RO.fork [6, 8] (by kernel_rfl) rfl ⟨⟨_, rfl, rfl, l_makeSlice (m := d.next.length) uT23 inf4 rfl rfl (by omega) (by omega) (fun bB => ⟨Sub.pick [4] rfl, ?_⟩)⟩, ⟨_, rfl, rfl, l_alloc inf23 rfl (fun bD => ⟨Sub.pick [4] rfl, ?_⟩)⟩, trivial⟩
    ·refine RO.fork [8] (by kernel_rfl) rfl ⟨⟨_, rfl, rfl, l_alloc inf23 rfl (fun bD => ⟨Sub.pick [5] rfl, ?_⟩)⟩, trivial⟩
     refine RO.fork [9] (by kernel_rfl) rfl ⟨⟨_, rfl, rfl, l_sb (v := (.slice (aD bA) 1 1)) (vs := [(.slice (aD bA) 1 1)]) 2 inf48 rfl rfl rfl rfl rfl rfl (by simp [putL]) ⟨Sub.pick [5] rfl, ?_⟩⟩, trivial⟩
     refine RO.fork [10] (by kernel_rfl) rfl ⟨⟨_, rfl, rfl, l_sb (v := (.slice (aD bB) d.next.length d.next.length)) (vs := [(.slice (aD bB) d.next.length d.next.length)]) 0 inf23 rfl rfl rfl rfl rfl rfl (by simp [putL]) ⟨Sub.pick [5] rfl, ?_⟩⟩, trivial⟩
     exact RO.fin (by kernel_rfl) ⟨bA, bB, bC, bD, rfl, (.of rfl)⟩ (Sub.pick [2, 0, 1, 0, 0, 0] rfl)
    refine RO.fork [6, 9] (by kernel_rfl) rfl ⟨⟨_, rfl, rfl, l_makeSlice (m := d.next.length) uT23 inf4 rfl rfl (by omega) (by omega) (fun bB => ⟨Sub.pick [5] rfl, ?_⟩)⟩, ⟨_, rfl, rfl, l_sb (v := (.slice (aD bA) 1 1)) (vs := [(.slice (aD bA) 1 1)]) 1 inf48 rfl rfl rfl rfl rfl rfl (by simp [putL]) ⟨Sub.pick [4] rfl, ?_⟩⟩, trivial⟩
    ·refine RO.fork [9] (by kernel_rfl) rfl ⟨⟨_, rfl, rfl, l_sb (v := (.slice (aD bA) 1 1)) (vs := [(.slice (aD bA) 1 1)]) 2 inf48 rfl rfl rfl rfl rfl rfl (by simp [putL]) ⟨Sub.pick [5] rfl, ?_⟩⟩, trivial⟩
     refine RO.fork [10] (by kernel_rfl) rfl ⟨⟨_, rfl, rfl, l_sb (v := (.slice (aD bB) d.next.length d.next.length)) (vs := [(.slice (aD bB) d.next.length d.next.length)]) 1 inf23 rfl rfl rfl rfl rfl rfl (by simp [putL]) ⟨Sub.pick [5] rfl, ?_⟩⟩, trivial⟩
     exact RO.fin (by kernel_rfl) ⟨bA, bB, bC, bD, rfl, (.of rfl)⟩ (Sub.pick [2, 1, 1, 0, 0, 0] rfl)
    refine RO.fork [6] (by kernel_rfl) rfl ⟨⟨_, rfl, rfl, l_makeSlice (m := d.next.length) uT23 inf4 rfl rfl (by omega) (by omega) (fun bB => ⟨Sub.pick [5] rfl, ?_⟩)⟩, trivial⟩
    refine RO.fork [10] (by kernel_rfl) rfl ⟨⟨_, rfl, rfl, l_sb (v := (.slice (aD bB) d.next.length d.next.length)) (vs := [(.slice (aD bB) d.next.length d.next.length)]) 1 inf23 rfl rfl rfl rfl rfl rfl (by simp [putL]) ⟨Sub.pick [5] rfl, ?_⟩⟩, trivial⟩
    exact RO.fin (by kernel_rfl) ⟨bA, bB, bC, bD, rfl, (.of rfl)⟩ (Sub.pick [2, 1, 1, 0, 0, 0] rfl)
   refine RO.fork [6, 7] (by kernel_rfl) rfl ⟨⟨_, rfl, rfl, l_makeSlice (m := d.next.length) uT23 inf4 rfl rfl (by omega) (by omega) (fun bB => ⟨Sub.pick [4] rfl, ?_⟩)⟩, ⟨_, rfl, rfl, l_alloc inf48 rfl (fun bC => ⟨Sub.pick [4] rfl, ?_⟩)⟩, trivial⟩
   ·refine RO.fork [7] (by kernel_rfl) rfl ⟨⟨_, rfl, rfl, l_alloc inf48 rfl (fun bC => ⟨Sub.pick [5] rfl, ?_⟩)⟩, trivial⟩
    refine RO.fork [9] (by kernel_rfl) rfl ⟨⟨_, rfl, rfl, l_sb (v := (.slice (aD bA) 1 1)) (vs := [(.slice (aD bA) 1 1)]) 0 inf48 rfl rfl rfl rfl rfl rfl (by simp [putL]) ⟨Sub.pick [5] rfl, ?_⟩⟩, trivial⟩
    refine RO.fork [10] (by kernel_rfl) rfl ⟨⟨_, rfl, rfl, l_sb (v := (.slice (aD bB) d.next.length d.next.length)) (vs := [(.slice (aD bB) d.next.length d.next.length)]) 2 inf23 rfl rfl rfl rfl rfl rfl (by simp [putL]) ⟨Sub.pick [5] rfl, ?_⟩⟩, trivial⟩
    exact RO.fin (by kernel_rfl) ⟨bA, bB, bC, bD, rfl, (.of rfl)⟩ (Sub.pick [0, 1, 1, 0, 0, 0] rfl)
   refine RO.fork [6, 9] (by kernel_rfl) rfl ⟨⟨_, rfl, rfl, l_makeSlice (m := d.next.length) uT23 inf4 rfl rfl (by omega) (by omega) (fun bB => ⟨Sub.pick [5] rfl, ?_⟩)⟩, ⟨_, rfl, rfl, l_sb (v := (.slice (aD bA) 1 1)) (vs := [(.slice (aD bA) 1 1)]) 0 inf48 rfl rfl rfl rfl rfl rfl (by simp [putL]) ⟨Sub.pick [4] rfl, ?_⟩⟩, trivial⟩
   ·refine RO.fork [9] (by kernel_rfl) rfl ⟨⟨_, rfl, rfl, l_sb (v := (.slice (aD bA) 1 1)) (vs := [(.slice (aD bA) 1 1)]) 1 inf48 rfl rfl rfl rfl rfl rfl (by simp [putL]) ⟨Sub.pick [5] rfl, ?_⟩⟩, trivial⟩
    refine RO.fork [10] (by kernel_rfl) rfl ⟨⟨_, rfl, rfl, l_sb (v := (.slice (aD bB) d.next.length d.next.length)) (vs := [(.slice (aD bB) d.next.length d.next.length)]) 2 inf23 rfl rfl rfl rfl rfl rfl (by simp [putL]) ⟨Sub.pick [5] rfl, ?_⟩⟩, trivial⟩
    exact RO.fin (by kernel_rfl) ⟨bA, bB, bC, bD, rfl, (.of rfl)⟩ (Sub.pick [1, 1, 1, 0, 0, 0] rfl)
   refine RO.fork [6] (by kernel_rfl) rfl ⟨⟨_, rfl, rfl, l_makeSlice (m := d.next.length) uT23 inf4 rfl rfl (by omega) (by omega) (fun bB => ⟨Sub.pick [5] rfl, ?_⟩)⟩, trivial⟩
   refine RO.fork [10] (by kernel_rfl) rfl ⟨⟨_, rfl, rfl, l_sb (v := (.slice (aD bB) d.next.length d.next.length)) (vs := [(.slice (aD bB) d.next.length d.next.length)]) 2 inf23 rfl rfl rfl rfl rfl rfl (by simp [putL]) ⟨Sub.pick [5] rfl, ?_⟩⟩, trivial⟩
   exact RO.fin (by kernel_rfl) ⟨bA, bB, bC, bD, rfl, (.of rfl)⟩ (Sub.pick [1, 1, 1, 0, 0, 0] rfl)
  ·refine RO.fork [2, 7, 8] (by kernel_rfl) rfl ⟨⟨_, rfl, rfl, l_build1 (v := (vI d.start)) uT48 inf3 rfl rfl rfl (fun bA => ⟨Sub.pick [3] rfl, ?_⟩)⟩, ⟨_, rfl, rfl, l_alloc inf48 rfl (fun bC => ⟨Sub.pick [3] rfl, ?_⟩)⟩, ⟨_, rfl, rfl, l_alloc inf23 rfl (fun bD => ⟨Sub.pick [3] rfl, ?_⟩)⟩, trivial⟩
   ·refine RO.fork [7, 8] (by kernel_rfl) rfl ⟨⟨_, rfl, rfl, l_alloc inf48 rfl (fun bC => ⟨Sub.pick [4] rfl, ?_⟩)⟩, ⟨_, rfl, rfl, l_alloc inf23 rfl (fun bD => ⟨Sub.pick [4] rfl, ?_⟩)⟩, trivial⟩
    ·refine RO.fork [8] (by kernel_rfl) rfl ⟨⟨_, rfl, rfl, l_alloc inf23 rfl (fun bD => ⟨Sub.pick [5] rfl, ?_⟩)⟩, trivial⟩
     refine RO.fork [9] (by kernel_rfl) rfl ⟨⟨_, rfl, rfl, l_sb (v := (.slice (aD bA) 1 1)) (vs := [(.slice (aD bA) 1 1)]) 1 inf48 rfl rfl rfl rfl rfl rfl (by simp [putL]) ⟨Sub.pick [5] rfl, ?_⟩⟩, trivial⟩
     refine RO.fork [10] (by kernel_rfl) rfl ⟨⟨_, rfl, rfl, l_sb (v := (.slice (aD bB) d.next.length d.next.length)) (vs := [(.slice (aD bB) d.next.length d.next.length)]) 0 inf23 rfl rfl rfl rfl rfl rfl (by simp [putL]) ⟨Sub.pick [5] rfl, ?_⟩⟩, trivial⟩
     exact RO.fin (by kernel_rfl) ⟨bA, bB, bC, bD, rfl, (.of rfl)⟩ (Sub.pick [1, 0, 0, 0, 0, 0] rfl)
    refine RO.fork [7] (by kernel_rfl) rfl ⟨⟨_, rfl, rfl, l_alloc inf48 rfl (fun bC => ⟨Sub.pick [5] rfl, ?_⟩)⟩, trivial⟩
    refine RO.fork [9] (by kernel_rfl) rfl ⟨⟨_, rfl, rfl, l_sb (v := (.slice (aD bA) 1 1)) (vs := [(.slice (aD bA) 1 1)]) 0 inf48 rfl rfl rfl rfl rfl rfl (by simp [putL]) ⟨Sub.pick [5] rfl, ?_⟩⟩, trivial⟩
    refine RO.fork [10] (by kernel_rfl) rfl ⟨⟨_, rfl, rfl, l_sb (v := (.slice (aD bB) d.next.length d.next.length)) (vs := [(.slice (aD bB) d.next.length d.next.length)]) 1 inf23 rfl rfl rfl rfl rfl rfl (by simp [putL]) ⟨Sub.pick [5] rfl, ?_⟩⟩, trivial⟩
    exact RO.fin (by kernel_rfl) ⟨bA, bB, bC, bD, rfl, (.of rfl)⟩ (Sub.pick [0, 0, 0, 0, 0, 0] rfl)
   ·refine RO.fork [2, 8] (by kernel_rfl) rfl ⟨⟨_, rfl, rfl, l_build1 (v := (vI d.start)) uT48 inf3 rfl rfl rfl (fun bA => ⟨Sub.pick [4] rfl, ?_⟩)⟩, ⟨_, rfl, rfl, l_alloc inf23 rfl (fun bD => ⟨Sub.pick [4] rfl, ?_⟩)⟩, trivial⟩
    ·refine RO.fork [8] (by kernel_rfl) rfl ⟨⟨_, rfl, rfl, l_alloc inf23 rfl (fun bD => ⟨Sub.pick [5] rfl, ?_⟩)⟩, trivial⟩
     refine RO.fork [9] (by kernel_rfl) rfl ⟨⟨_, rfl, rfl, l_sb (v := (.slice (aD bA) 1 1)) (vs := [(.slice (aD bA) 1 1)]) 2 inf48 rfl rfl rfl rfl rfl rfl (by simp [putL]) ⟨Sub.pick [5] rfl, ?_⟩⟩, trivial⟩
     refine RO.fork [10] (by kernel_rfl) rfl ⟨⟨_, rfl, rfl, l_sb (v := (.slice (aD bB) d.next.length d.next.length)) (vs := [(.slice (aD bB) d.next.length d.next.length)]) 0 inf23 rfl rfl rfl rfl rfl rfl (by simp [putL]) ⟨Sub.pick [5] rfl, ?_⟩⟩, trivial⟩
     exact RO.fin (by kernel_rfl) ⟨bA, bB, bC, bD, rfl, (.of rfl)⟩ (Sub.pick [2, 0, 0, 0, 0, 0] rfl)
    refine RO.fork [2] (by kernel_rfl) rfl ⟨⟨_, rfl, rfl, l_build1 (v := (vI d.start)) uT48 inf3 rfl rfl rfl (fun bA => ⟨Sub.pick [5] rfl, ?_⟩)⟩, trivial⟩
    refine RO.fork [9] (by kernel_rfl) rfl ⟨⟨_, rfl, rfl, l_sb (v := (.slice (aD bA) 1 1)) (vs := [(.slice (aD bA) 1 1)]) 2 inf48 rfl rfl rfl rfl rfl rfl (by simp [putL]) ⟨Sub.pick [5] rfl, ?_⟩⟩, trivial⟩
    refine RO.fork [10] (by kernel_rfl) rfl ⟨⟨_, rfl, rfl, l_sb (v := (.slice (aD bB) d.next.length d.next.length)) (vs := [(.slice (aD bB) d.next.length d.next.length)]) 1 inf23 rfl rfl rfl rfl rfl rfl (by simp [putL]) ⟨Sub.pick [5] rfl, ?_⟩⟩, trivial⟩
    exact RO.fin (by kernel_rfl) ⟨bA, bB, bC, bD, rfl, (.of rfl)⟩ (Sub.pick [2, 1, 0, 0, 0, 0] rfl)
   refine RO.fork [2, 7] (by kernel_rfl) rfl ⟨⟨_, rfl, rfl, l_build1 (v := (vI d.start)) uT48 inf3 rfl rfl rfl (fun bA => ⟨Sub.pick [4] rfl, ?_⟩)⟩, ⟨_, rfl, rfl, l_alloc inf48 rfl (fun bC => ⟨Sub.pick [4] rfl, ?_⟩)⟩, trivial⟩
   ·refine RO.fork [7] (by kernel_rfl) rfl ⟨⟨_, rfl, rfl, l_alloc inf48 rfl (fun bC => ⟨Sub.pick [5] rfl, ?_⟩)⟩, trivial⟩
    refine RO.fork [9] (by kernel_rfl) rfl ⟨⟨_, rfl, rfl, l_sb (v := (.slice (aD bA) 1 1)) (vs := [(.slice (aD bA) 1 1)]) 0 inf48 rfl rfl rfl rfl rfl rfl (by simp [putL]) ⟨Sub.pick [5] rfl, ?_⟩⟩, trivial⟩
    refine RO.fork [10] (by kernel_rfl) rfl ⟨⟨_, rfl, rfl, l_sb (v := (.slice (aD bB) d.next.length d.next.length)) (vs := [(.slice (aD bB) d.next.length d.next.length)]) 2 inf23 rfl rfl rfl rfl rfl rfl (by simp [putL]) ⟨Sub.pick [5] rfl, ?_⟩⟩, trivial⟩
    exact RO.fin (by kernel_rfl) ⟨bA, bB, bC, bD, rfl, (.of rfl)⟩ (Sub.pick [0, 1, 0, 0, 0, 0] rfl)
   refine RO.fork [2] (by kernel_rfl) rfl ⟨⟨_, rfl, rfl, l_build1 (v := (vI d.start)) uT48 inf3 rfl rfl rfl (fun bA => ⟨Sub.pick [5] rfl, ?_⟩)⟩, trivial⟩
   refine RO.fork [9] (by kernel_rfl) rfl ⟨⟨_, rfl, rfl, l_sb (v := (.slice (aD bA) 1 1)) (vs := [(.slice (aD bA) 1 1)]) 1 inf48 rfl rfl rfl rfl rfl rfl (by simp [putL]) ⟨Sub.pick [5] rfl, ?_⟩⟩, trivial⟩
   refine RO.fork [10] (by kernel_rfl) rfl ⟨⟨_, rfl, rfl, l_sb (v := (.slice (aD bB) d.next.length d.next.length)) (vs := [(.slice (aD bB) d.next.length d.next.length)]) 2 inf23 rfl rfl rfl rfl rfl rfl (by simp [putL]) ⟨Sub.pick [5] rfl, ?_⟩⟩, trivial⟩
   exact RO.fin (by kernel_rfl) ⟨bA, bB, bC, bD, rfl, (.of rfl)⟩ (Sub.pick [1, 1, 0, 0, 0, 0] rfl)
  ·refine RO.fork [2, 6, 8] (by kernel_rfl) rfl ⟨⟨_, rfl, rfl, l_build1 (v := (vI d.start)) uT48 inf3 rfl rfl rfl (fun bA => ⟨Sub.pick [3] rfl, ?_⟩)⟩, ⟨_, rfl, rfl, l_makeSlice (m := d.next.length) uT23 inf4 rfl rfl (by omega) (by omega) (fun bB => ⟨Sub.pick [3] rfl, ?_⟩)⟩, ⟨_, rfl, rfl, l_alloc inf23 rfl (fun bD => ⟨Sub.pick [3] rfl, ?_⟩)⟩, trivial⟩
   ·refine RO.fork [6, 8] (by kernel_rfl) rfl ⟨⟨_, rfl, rfl, l_makeSlice (m := d.next.length) uT23 inf4 rfl rfl (by omega) (by omega) (fun bB => ⟨Sub.pick [4] rfl, ?_⟩)⟩, ⟨_, rfl, rfl, l_alloc inf23 rfl (fun bD => ⟨Sub.pick [4] rfl, ?_⟩)⟩, trivial⟩
    ·refine RO.fork [8] (by kernel_rfl) rfl ⟨⟨_, rfl, rfl, l_alloc inf23 rfl (fun bD => ⟨Sub.pick [5] rfl, ?_⟩)⟩, trivial⟩
     refine RO.fork [9] (by kernel_rfl) rfl ⟨⟨_, rfl, rfl, l_sb (v := (.slice (aD bA) 1 1)) (vs := [(.slice (aD bA) 1 1)]) 3 inf48 rfl rfl rfl rfl rfl rfl (by simp [putL]) ⟨Sub.pick [5] rfl, ?_⟩⟩, trivial⟩
     refine RO.fork [10] (by kernel_rfl) rfl ⟨⟨_, rfl, rfl, l_sb (v := (.slice (aD bB) d.next.length d.next.length)) (vs := [(.slice (aD bB) d.next.length d.next.length)]) 0 inf23 rfl rfl rfl rfl rfl rfl (by simp [putL]) ⟨Sub.pick [5] rfl, ?_⟩⟩, trivial⟩
     exact RO.fin (by kernel_rfl) ⟨bA, bB, bC, bD, rfl, (.of rfl)⟩ (Sub.pick [3, 0, 1, 0, 0, 0] rfl)
    refine RO.fork [6, 9] (by kernel_rfl) rfl ⟨⟨_, rfl, rfl, l_makeSlice (m := d.next.length) uT23 inf4 rfl rfl (by omega) (by omega) (fun bB => ⟨Sub.pick [5] rfl, ?_⟩)⟩, ⟨_, rfl, rfl, l_sb (v := (.slice (aD bA) 1 1)) (vs := [(.slice (aD bA) 1 1)]) 2 inf48 rfl rfl rfl rfl rfl rfl (by simp [putL]) ⟨Sub.pick [4] rfl, ?_⟩⟩, trivial⟩
    ·refine RO.fork [9] (by kernel_rfl) rfl ⟨⟨_, rfl, rfl, l_sb (v := (.slice (aD bA) 1 1)) (vs := [(.slice (aD bA) 1 1)]) 3 inf48 rfl rfl rfl rfl rfl rfl (by simp [putL]) ⟨Sub.pick [5] rfl, ?_⟩⟩, trivial⟩
     refine RO.fork [10] (by kernel_rfl) rfl ⟨⟨_, rfl, rfl, l_sb (v := (.slice (aD bB) d.next.length d.next.length)) (vs := [(.slice (aD bB) d.next.length d.next.length)]) 1 inf23 rfl rfl rfl rfl rfl rfl (by simp [putL]) ⟨Sub.pick [5] rfl, ?_⟩⟩, trivial⟩
     exact RO.fin (by kernel_rfl) ⟨bA, bB, bC, bD, rfl, (.of rfl)⟩ (Sub.pick [3, 1, 1, 0, 0, 0] rfl)
    refine RO.fork [6] (by kernel_rfl) rfl ⟨⟨_, rfl, rfl, l_makeSlice (m := d.next.length) uT23 inf4 rfl rfl (by omega) (by omega) (fun bB => ⟨Sub.pick [5] rfl, ?_⟩)⟩, trivial⟩
    refine RO.fork [10] (by kernel_rfl) rfl ⟨⟨_, rfl, rfl, l_sb (v := (.slice (aD bB) d.next.length d.next.length)) (vs := [(.slice (aD bB) d.next.length d.next.length)]) 1 inf23 rfl rfl rfl rfl rfl rfl (by simp [putL]) ⟨Sub.pick [5] rfl, ?_⟩⟩, trivial⟩
    exact RO.fin (by kernel_rfl) ⟨bA, bB, bC, bD, rfl, (.of rfl)⟩ (Sub.pick [3, 1, 1, 0, 0, 0] rfl)
   ·refine RO.fork [2, 8] (by kernel_rfl) rfl ⟨⟨_, rfl, rfl, l_build1 (v := (vI d.start)) uT48 inf3 rfl rfl rfl (fun bA => ⟨Sub.pick [4] rfl, ?_⟩)⟩, ⟨_, rfl, rfl, l_alloc inf23 rfl (fun bD => ⟨Sub.pick [4] rfl, ?_⟩)⟩, trivial⟩
    ·refine RO.fork [8] (by kernel_rfl) rfl ⟨⟨_, rfl, rfl, l_alloc inf23 rfl (fun bD => ⟨Sub.pick [5] rfl, ?_⟩)⟩, trivial⟩
     refine RO.fork [9] (by kernel_rfl) rfl ⟨⟨_, rfl, rfl, l_sb (v := (.slice (aD bA) 1 1)) (vs := [(.slice (aD bA) 1 1)]) 3 inf48 rfl rfl rfl rfl rfl rfl (by simp [putL]) ⟨Sub.pick [5] rfl, ?_⟩⟩, trivial⟩
     refine RO.fork [10] (by kernel_rfl) rfl ⟨⟨_, rfl, rfl, l_sb (v := (.slice (aD bB) d.next.length d.next.length)) (vs := [(.slice (aD bB) d.next.length d.next.length)]) 0 inf23 rfl rfl rfl rfl rfl rfl (by simp [putL]) ⟨Sub.pick [5] rfl, ?_⟩⟩, trivial⟩
     exact RO.fin (by kernel_rfl) ⟨bA, bB, bC, bD, rfl, (.of rfl)⟩ (Sub.pick [3, 0, 0, 0, 0, 0] rfl)
    refine RO.fork [2] (by kernel_rfl) rfl ⟨⟨_, rfl, rfl, l_build1 (v := (vI d.start)) uT48 inf3 rfl rfl rfl (fun bA => ⟨Sub.pick [5] rfl, ?_⟩)⟩, trivial⟩
    refine RO.fork [9] (by kernel_rfl) rfl ⟨⟨_, rfl, rfl, l_sb (v := (.slice (aD bA) 1 1)) (vs := [(.slice (aD bA) 1 1)]) 3 inf48 rfl rfl rfl rfl rfl rfl (by simp [putL]) ⟨Sub.pick [5] rfl, ?_⟩⟩, trivial⟩
    refine RO.fork [10] (by kernel_rfl) rfl ⟨⟨_, rfl, rfl, l_sb (v := (.slice (aD bB) d.next.length d.next.length)) (vs := [(.slice (aD bB) d.next.length d.next.length)]) 1 inf23 rfl rfl rfl rfl rfl rfl (by simp [putL]) ⟨Sub.pick [5] rfl, ?_⟩⟩, trivial⟩
    exact RO.fin (by kernel_rfl) ⟨bA, bB, bC, bD, rfl, (.of rfl)⟩ (Sub.pick [3, 1, 0, 0, 0, 0] rfl)
   refine RO.fork [2, 6] (by kernel_rfl) rfl ⟨⟨_, rfl, rfl, l_build1 (v := (vI d.start)) uT48 inf3 rfl rfl rfl (fun bA => ⟨Sub.pick [4] rfl, ?_⟩)⟩, ⟨_, rfl, rfl, l_makeSlice (m := d.next.length) uT23 inf4 rfl rfl (by omega) (by omega) (fun bB => ⟨Sub.pick [4] rfl, ?_⟩)⟩, trivial⟩
   ·refine RO.fork [6, 9] (by kernel_rfl) rfl ⟨⟨_, rfl, rfl, l_makeSlice (m := d.next.length) uT23 inf4 rfl rfl (by omega) (by omega) (fun bB => ⟨Sub.pick [5] rfl, ?_⟩)⟩, ⟨_, rfl, rfl, l_sb (v := (.slice (aD bA) 1 1)) (vs := [(.slice (aD bA) 1 1)]) 2 inf48 rfl rfl rfl rfl rfl rfl (by simp [putL]) ⟨Sub.pick [4] rfl, ?_⟩⟩, trivial⟩
    ·refine RO.fork [9] (by kernel_rfl) rfl ⟨⟨_, rfl, rfl, l_sb (v := (.slice (aD bA) 1 1)) (vs := [(.slice (aD bA) 1 1)]) 3 inf48 rfl rfl rfl rfl rfl rfl (by simp [putL]) ⟨Sub.pick [5] rfl, ?_⟩⟩, trivial⟩
     refine RO.fork [10] (by kernel_rfl) rfl ⟨⟨_, rfl, rfl, l_sb (v := (.slice (aD bB) d.next.length d.next.length)) (vs := [(.slice (aD bB) d.next.length d.next.length)]) 2 inf23 rfl rfl rfl rfl rfl rfl (by simp [putL]) ⟨Sub.pick [5] rfl, ?_⟩⟩, trivial⟩
     exact RO.fin (by kernel_rfl) ⟨bA, bB, bC, bD, rfl, (.of rfl)⟩ (Sub.pick [3, 2, 1, 0, 0, 0] rfl)
    refine RO.fork [6] (by kernel_rfl) rfl ⟨⟨_, rfl, rfl, l_makeSlice (m := d.next.length) uT23 inf4 rfl rfl (by omega) (by omega) (fun bB => ⟨Sub.pick [5] rfl, ?_⟩)⟩, trivial⟩
    refine RO.fork [10] (by kernel_rfl) rfl ⟨⟨_, rfl, rfl, l_sb (v := (.slice (aD bB) d.next.length d.next.length)) (vs := [(.slice (aD bB) d.next.length d.next.length)]) 2 inf23 rfl rfl rfl rfl rfl rfl (by simp [putL]) ⟨Sub.pick [5] rfl, ?_⟩⟩, trivial⟩
    exact RO.fin (by kernel_rfl) ⟨bA, bB, bC, bD, rfl, (.of rfl)⟩ (Sub.pick [3, 2, 1, 0, 0, 0] rfl)
   refine RO.fork [2] (by kernel_rfl) rfl ⟨⟨_, rfl, rfl, l_build1 (v := (vI d.start)) uT48 inf3 rfl rfl rfl (fun bA => ⟨Sub.pick [5] rfl, ?_⟩)⟩, trivial⟩
   refine RO.fork [9] (by kernel_rfl) rfl ⟨⟨_, rfl, rfl, l_sb (v := (.slice (aD bA) 1 1)) (vs := [(.slice (aD bA) 1 1)]) 3 inf48 rfl rfl rfl rfl rfl rfl (by simp [putL]) ⟨Sub.pick [5] rfl, ?_⟩⟩, trivial⟩
   refine RO.fork [10] (by kernel_rfl) rfl ⟨⟨_, rfl, rfl, l_sb (v := (.slice (aD bB) d.next.length d.next.length)) (vs := [(.slice (aD bB) d.next.length d.next.length)]) 2 inf23 rfl rfl rfl rfl rfl rfl (by simp [putL]) ⟨Sub.pick [5] rfl, ?_⟩⟩, trivial⟩
   exact RO.fin (by kernel_rfl) ⟨bA, bB, bC, bD, rfl, (.of rfl)⟩ (Sub.pick [3, 2, 0, 0, 0, 0] rfl)
  refine RO.fork [2, 6, 7] (by kernel_rfl) rfl ⟨⟨_, rfl, rfl, l_build1 (v := (vI d.start)) uT48 inf3 rfl rfl rfl (fun bA => ⟨Sub.pick [3] rfl, ?_⟩)⟩, ⟨_, rfl, rfl, l_makeSlice (m := d.next.length) uT23 inf4 rfl rfl (by omega) (by omega) (fun bB => ⟨Sub.pick [3] rfl, ?_⟩)⟩, ⟨_, rfl, rfl, l_alloc inf48 rfl (fun bC => ⟨Sub.pick [3] rfl, ?_⟩)⟩, trivial⟩
  ·refine RO.fork [6, 7] (by kernel_rfl) rfl ⟨⟨_, rfl, rfl, l_makeSlice (m := d.next.length) uT23 inf4 rfl rfl (by omega) (by omega) (fun bB => ⟨Sub.pick [4] rfl, ?_⟩)⟩, ⟨_, rfl, rfl, l_alloc inf48 rfl (fun bC => ⟨Sub.pick [4] rfl, ?_⟩)⟩, trivial⟩
   ·refine RO.fork [7] (by kernel_rfl) rfl ⟨⟨_, rfl, rfl, l_alloc inf48 rfl (fun bC => ⟨Sub.pick [5] rfl, ?_⟩)⟩, trivial⟩
    refine RO.fork [9] (by kernel_rfl) rfl ⟨⟨_, rfl, rfl, l_sb (v := (.slice (aD bA) 1 1)) (vs := [(.slice (aD bA) 1 1)]) 0 inf48 rfl rfl rfl rfl rfl rfl (by simp [putL]) ⟨Sub.pick [5] rfl, ?_⟩⟩, trivial⟩
    refine RO.fork [10] (by kernel_rfl) rfl ⟨⟨_, rfl, rfl, l_sb (v := (.slice (aD bB) d.next.length d.next.length)) (vs := [(.slice (aD bB) d.next.length d.next.length)]) 3 inf23 rfl rfl rfl rfl rfl rfl (by simp [putL]) ⟨Sub.pick [5] rfl, ?_⟩⟩, trivial⟩
    exact RO.fin (by kernel_rfl) ⟨bA, bB, bC, bD, rfl, (.of rfl)⟩ (Sub.pick [0, 2, 1, 0, 0, 0] rfl)
   refine RO.fork [6, 9] (by kernel_rfl) rfl ⟨⟨_, rfl, rfl, l_makeSlice (m := d.next.length) uT23 inf4 rfl rfl (by omega) (by omega) (fun bB => ⟨Sub.pick [5] rfl, ?_⟩)⟩, ⟨_, rfl, rfl, l_sb (v := (.slice (aD bA) 1 1)) (vs := [(.slice (aD bA) 1 1)]) 0 inf48 rfl rfl rfl rfl rfl rfl (by simp [putL]) ⟨Sub.pick [4] rfl, ?_⟩⟩, trivial⟩
   ·refine RO.fork [9] (by kernel_rfl) rfl ⟨⟨_, rfl, rfl, l_sb (v := (.slice (aD bA) 1 1)) (vs := [(.slice (aD bA) 1 1)]) 1 inf48 rfl rfl rfl rfl rfl rfl (by simp [putL]) ⟨Sub.pick [5] rfl, ?_⟩⟩, trivial⟩
    refine RO.fork [10] (by kernel_rfl) rfl ⟨⟨_, rfl, rfl, l_sb (v := (.slice (aD bB) d.next.length d.next.length)) (vs := [(.slice (aD bB) d.next.length d.next.length)]) 3 inf23 rfl rfl rfl rfl rfl rfl (by simp [putL]) ⟨Sub.pick [5] rfl, ?_⟩⟩, trivial⟩
    exact RO.fin (by kernel_rfl) ⟨bA, bB, bC, bD, rfl, (.of rfl)⟩ (Sub.pick [1, 2, 1, 0, 0, 0] rfl)
   refine RO.fork [6] (by kernel_rfl) rfl ⟨⟨_, rfl, rfl, l_makeSlice (m := d.next.length) uT23 inf4 rfl rfl (by omega) (by omega) (fun bB => ⟨Sub.pick [5] rfl, ?_⟩)⟩, trivial⟩
   refine RO.fork [10] (by kernel_rfl) rfl ⟨⟨_, rfl, rfl, l_sb (v := (.slice (aD bB) d.next.length d.next.length)) (vs := [(.slice (aD bB) d.next.length d.next.length)]) 3 inf23 rfl rfl rfl rfl rfl rfl (by simp [putL]) ⟨Sub.pick [5] rfl, ?_⟩⟩, trivial⟩
   exact RO.fin (by kernel_rfl) ⟨bA, bB, bC, bD, rfl, (.of rfl)⟩ (Sub.pick [1, 2, 1, 0, 0, 0] rfl)
  ·refine RO.fork [2, 7] (by kernel_rfl) rfl ⟨⟨_, rfl, rfl, l_build1 (v := (vI d.start)) uT48 inf3 rfl rfl rfl (fun bA => ⟨Sub.pick [4] rfl, ?_⟩)⟩, ⟨_, rfl, rfl, l_alloc inf48 rfl (fun bC => ⟨Sub.pick [4] rfl, ?_⟩)⟩, trivial⟩
   ·refine RO.fork [7] (by kernel_rfl) rfl ⟨⟨_, rfl, rfl, l_alloc inf48 rfl (fun bC => ⟨Sub.pick [5] rfl, ?_⟩)⟩, trivial⟩
    refine RO.fork [9] (by kernel_rfl) rfl ⟨⟨_, rfl, rfl, l_sb (v := (.slice (aD bA) 1 1)) (vs := [(.slice (aD bA) 1 1)]) 0 inf48 rfl rfl rfl rfl rfl rfl (by simp [putL]) ⟨Sub.pick [5] rfl, ?_⟩⟩, trivial⟩
    refine RO.fork [10] (by kernel_rfl) rfl ⟨⟨_, rfl, rfl, l_sb (v := (.slice (aD bB) d.next.length d.next.length)) (vs := [(.slice (aD bB) d.next.length d.next.length)]) 3 inf23 rfl rfl rfl rfl rfl rfl (by simp [putL]) ⟨Sub.pick [5] rfl, ?_⟩⟩, trivial⟩
    exact RO.fin (by kernel_rfl) ⟨bA, bB, bC, bD, rfl, (.of rfl)⟩ (Sub.pick [0, 2, 0, 0, 0, 0] rfl)
   refine RO.fork [2] (by kernel_rfl) rfl ⟨⟨_, rfl, rfl, l_build1 (v := (vI d.start)) uT48 inf3 rfl rfl rfl (fun bA => ⟨Sub.pick [5] rfl, ?_⟩)⟩, trivial⟩
   refine RO.fork [9] (by kernel_rfl) rfl ⟨⟨_, rfl, rfl, l_sb (v := (.slice (aD bA) 1 1)) (vs := [(.slice (aD bA) 1 1)]) 1 inf48 rfl rfl rfl rfl rfl rfl (by simp [putL]) ⟨Sub.pick [5] rfl, ?_⟩⟩, trivial⟩
   refine RO.fork [10] (by kernel_rfl) rfl ⟨⟨_, rfl, rfl, l_sb (v := (.slice (aD bB) d.next.length d.next.length)) (vs := [(.slice (aD bB) d.next.length d.next.length)]) 3 inf23 rfl rfl rfl rfl rfl rfl (by simp [putL]) ⟨Sub.pick [5] rfl, ?_⟩⟩, trivial⟩
   exact RO.fin (by kernel_rfl) ⟨bA, bB, bC, bD, rfl, (.of rfl)⟩ (Sub.pick [1, 2, 0, 0, 0, 0] rfl)
  refine RO.fork [2, 6] (by kernel_rfl) rfl ⟨⟨_, rfl, rfl, l_build1 (v := (vI d.start)) uT48 inf3 rfl rfl rfl (fun bA => ⟨Sub.pick [4] rfl, ?_⟩)⟩, ⟨_, rfl, rfl, l_makeSlice (m := d.next.length) uT23 inf4 rfl rfl (by omega) (by omega) (fun bB => ⟨Sub.pick [4] rfl, ?_⟩)⟩, trivial⟩
  ·refine RO.fork [6, 9] (by kernel_rfl) rfl ⟨⟨_, rfl, rfl, l_makeSlice (m := d.next.length) uT23 inf4 rfl rfl (by omega) (by omega) (fun bB => ⟨Sub.pick [5] rfl, ?_⟩)⟩, ⟨_, rfl, rfl, l_sb (v := (.slice (aD bA) 1 1)) (vs := [(.slice (aD bA) 1 1)]) 1 inf48 rfl rfl rfl rfl rfl rfl (by simp [putL]) ⟨Sub.pick [4] rfl, ?_⟩⟩, trivial⟩
   ·refine RO.fork [9] (by kernel_rfl) rfl ⟨⟨_, rfl, rfl, l_sb (v := (.slice (aD bA) 1 1)) (vs := [(.slice (aD bA) 1 1)]) 2 inf48 rfl rfl rfl rfl rfl rfl (by simp [putL]) ⟨Sub.pick [5] rfl, ?_⟩⟩, trivial⟩
    refine RO.fork [10] (by kernel_rfl) rfl ⟨⟨_, rfl, rfl, l_sb (v := (.slice (aD bB) d.next.length d.next.length)) (vs := [(.slice (aD bB) d.next.length d.next.length)]) 3 inf23 rfl rfl rfl rfl rfl rfl (by simp [putL]) ⟨Sub.pick [5] rfl, ?_⟩⟩, trivial⟩
    exact RO.fin (by kernel_rfl) ⟨bA, bB, bC, bD, rfl, (.of rfl)⟩ (Sub.pick [2, 2, 1, 0, 0, 0] rfl)
   refine RO.fork [6] (by kernel_rfl) rfl ⟨⟨_, rfl, rfl, l_makeSlice (m := d.next.length) uT23 inf4 rfl rfl (by omega) (by omega) (fun bB => ⟨Sub.pick [5] rfl, ?_⟩)⟩, trivial⟩
   refine RO.fork [10] (by kernel_rfl) rfl ⟨⟨_, rfl, rfl, l_sb (v := (.slice (aD bB) d.next.length d.next.length)) (vs := [(.slice (aD bB) d.next.length d.next.length)]) 3 inf23 rfl rfl rfl rfl rfl rfl (by simp [putL]) ⟨Sub.pick [5] rfl, ?_⟩⟩, trivial⟩
   exact RO.fin (by kernel_rfl) ⟨bA, bB, bC, bD, rfl, (.of rfl)⟩ (Sub.pick [2, 2, 1, 0, 0, 0] rfl)
  refine RO.fork [2] (by kernel_rfl) rfl ⟨⟨_, rfl, rfl, l_build1 (v := (vI d.start)) uT48 inf3 rfl rfl rfl (fun bA => ⟨Sub.pick [5] rfl, ?_⟩)⟩, trivial⟩
  refine RO.fork [9] (by kernel_rfl) rfl ⟨⟨_, rfl, rfl, l_sb (v := (.slice (aD bA) 1 1)) (vs := [(.slice (aD bA) 1 1)]) 2 inf48 rfl rfl rfl rfl rfl rfl (by simp [putL]) ⟨Sub.pick [5] rfl, ?_⟩⟩, trivial⟩
  refine RO.fork [10] (by kernel_rfl) rfl ⟨⟨_, rfl, rfl, l_sb (v := (.slice (aD bB) d.next.length d.next.length)) (vs := [(.slice (aD bB) d.next.length d.next.length)]) 3 inf23 rfl rfl rfl rfl rfl rfl (by simp [putL]) ⟨Sub.pick [5] rfl, ?_⟩⟩, trivial⟩
  exact RO.fin (by kernel_rfl) ⟨bA, bB, bC, bD, rfl, (.of rfl)⟩ (Sub.pick [2, 2, 0, 0, 0, 0] rfl)
 rintro ρ O ⟨bA, bB, bC, bD, rfl, hH⟩
 obtain ⟨ρ0, rfl⟩ := hH.elim
 clear hH
 refine T.s (T.rg (TO.q (q_lb 1 uT23 rfl rfl rfl rfl) (TO.q (q_fa uT25 rfl inf3 rfl rfl) (TO.q (q_lb 5 uT3 rfl rfl rfl rfl) (TO.q (q_ixz (i := d.start) uT23 inf4 rfl rfl (rowO (mG 3 rfl)) hs0 hsn (by rw [List.length_replicate]; exact hsn)) (TO.l rfl (l_st (j := d.start.toNat) (v := .bool true) (vs := [(.bool true)]) (cs := List.replicate d.next.length (.bool false)) 3 inf4 rfl rfl rfl rfl rfl (by simp) rfl (by first | (simp; omega) | (simp_all; omega)) ?_)))))))
 refine TO.sub (O' := [oI bC 48 [(.slice (aD bA) 1 1)], oI bD 23 [(.slice (aD bB) d.next.length d.next.length)], rowI (aD bA) 1 3 1 [(vI d.start)], rowI (aD bB) d.next.length 4 1 (bools ((List.replicate d.next.length false).set d.start.toNat true)), oI z2 25 [(vI 0), (vI 0), nS, nS], oI z1 25 [(vI d.vars), (vI d.start), (.slice nb d.next.length nc), (.slice fb d.final.length fc)]]) (by rw [show putL (List.replicate d.next.length (.bool false)) d.start.toNat [(.bool true)] = bools ((List.replicate d.next.length false).set d.start.toNat true) from by simp [putL]]; exact Sub.of (List.Sublist.refl _)) ?_
 refine TO.nl (T.s (T.rg (TO.q (q_makeFunc) (TO.qa rfl (TO.nl (T.s (T.rg (TO.q (q_fa uT25 rfl inf3 rfl rfl) (TO.q (q_lb 5 uT3 rfl rfl rfl rfl) (TO.q (q_fa uT25 rfl inf3 rfl rfl) (TO.l rfl (l_sb (v := (vI d.vars)) (vs := [(vI d.vars)]) 4 inf3 rfl rfl rfl rfl rfl rfl (by simp [putL]) ?_))))))))))))
 refine TO.nl (T.s ?_)
 have hJ0 : [oI z1 25 [(vI d.vars), (vI d.start), (.slice nb d.next.length nc), (.slice fb d.final.length fc)], oI bC 48 [(.slice (aD bA) 1 1)], rowI (aD bA) 1 3 1 [(vI d.start)], oI bD 23 [(.slice (aD bB) d.next.length d.next.length)], rowI (aD bB) d.next.length 4 1 (bools ((List.replicate d.next.length false).set d.start.toNat true))] = [oI z1 25 [(vI d.vars), (vI d.start), (.slice nb d.next.length nc), (.slice fb d.final.length fc)], oI bC 48 [(.slice (aD bA) 1 1)], rowI (aD bA) 1 3 1 (nats [d.start.toNat]), oI bD 23 [(.slice (aD bB) d.next.length d.next.length)], rowI (aD bB) d.next.length 4 1 (bools ((List.replicate d.next.length false).set d.start.toNat true))] := by
  rw [show nats [d.start.toNat] = [vI d.start] by simp [Int.toNat_of_nonneg hs0]]
 have hseen : ∀ t, t < d.next.length → ((List.replicate d.next.length false).set d.start.toNat true)[t]? = some (decide (t ∈ [d.start.toNat])) := fun t ht => by
  by_cases e : t = d.start.toNat
  ·subst e; rw [List.getElem?_set_self (by simpa using ht)]; simp
  ·rw [List.getElem?_set_ne (fun h => e h.symm)]; simp [ht, e]
 refine T.draws [oI z1 25 [(vI d.vars), (vI d.start), (.slice nb d.next.length nc), (.slice fb d.final.length fc)]] [(0, 0), (1, 0), (2, 0), (3, 0), (4, 0), (5, 0), (6, 0), (7, 0), (9, 0), (8, 1), (10, 1), (11, 0), (12, 0), (13, 0), (14, 0), (15, 1)] mixed (drawF_ok (by kernel_rfl)) (Sub.pick [5] rfl) (fun _ _ _ h => h) ?_
 refine DO.q rfl (q_fa uT25 rfl inf3 rfl rfl) (DO.q rfl (q_lb 0 uT3 rfl rfl rfl rfl) (DO.q rfl (q_shl1 (v := d.vars.toNat) rfl (by show Value.int _ d.vars = _; rw [Int.toNat_of_nonneg hv.v0]) (by have := hv.v6; omega)) (DO.q rfl (q_fa uT25 rfl inf22 rfl rfl) (DO.q rfl (q_lb 0 uT22 rfl rfl rfl rfl) (DO.q rfl (q_len uT22 rfl) (DO.q rfl (q_fa uT25 rfl inf3 rfl rfl) (DO.q rfl (QT.cast (q_lb 0 uT3 rfl rfl rfl rfl) (v' := vI ((d.start.toNat : Nat) : Int)) (by rw [Int.toNat_of_nonneg hs0])) (DO.q rfl (q_move rfl) ?_))))))))
 have hk40 := fun (w1 : World) (hI : Inv w [oI bC 48 [(.slice (aD bA) 1 1)], oI bD 23 [(.slice (aD bB) d.next.length d.next.length)], rowI (aD bA) 1 3 1 [(vI d.start)], rowI (aD bB) d.next.length 4 1 (bools ((List.replicate d.next.length false).set d.start.toNat true)), oI z2 25 [(vI d.vars), (vI 0), nS, nS], oI z1 25 [(vI d.vars), (vI d.start), (.slice nb d.next.length nc), (.slice fb d.final.length fc)]] w1) => (haveI := tbz hI; itoaF w1 d.start.toNat (by omega))
 refine DO.loud rfl rfl (l_call ent90 (CallT.op hk40) rfl ?_)
 clear hk40
 rintro v O' ⟨N, rfl, rfl, rfl⟩
 refine ⟨Sub.pick [5] rfl, ?_⟩
 have hk42 := CallT.under (B := [oI z2 25 [(vI d.vars), (vI 0), nS, nS]]) (O := [oI bC 48 [(.slice (aD bA) 1 1)], oI bD 23 [(.slice (aD bB) d.next.length d.next.length)], rowI (aD bA) 1 3 1 [(vI d.start)], rowI (aD bB) d.next.length 4 1 (bools ((List.replicate d.next.length false).set d.start.toNat true)), oI z2 25 [(vI d.vars), (vI 0), nS, nS], oI z1 25 [(vI d.vars), (vI d.start), (.slice nb d.next.length nc), (.slice fb d.final.length fc)]]) (exploreC w (trD d) (2 ^ d.vars.toNat) d.next.length (Lib.decDigits d.start.toNat) (.func (.func 89) #[] #[.pointer (aD z1), .pointer (aD bC), .pointer (aD bD)]) (RenJ d nb fb nc fc z1 bB bC bD) (fun ks => ks.length ≤ d.next.length) hv.width hv.n4 (fun ks s x O hs hx _ hJ => nextV w d nb fb nc fc vs h hv hn z1 bB bC bD ks s x O hs hx hJ) (fun _ h => h) [oI z1 25 [(vI d.vars), (vI d.start), (.slice nb d.next.length nc), (.slice fb d.final.length fc)], oI bC 48 [(.slice (aD bA) 1 1)], rowI (aD bA) 1 3 1 [(vI d.start)], oI bD 23 [(.slice (aD bB) d.next.length d.next.length)], rowI (aD bB) d.next.length 4 1 (bools ((List.replicate d.next.length false).set d.start.toNat true))] (by simp; omega) ⟨[d.start.toNat], (List.replicate d.next.length false).set d.start.toNat true, some ⟨bA, 0, none⟩, 1, rfl, hJ0, by simp, by simp; omega, by simp, hseen⟩) (Sub.pick [5, 0, 1, 0, 0, 0] rfl)
 refine DO.loud rfl rfl (l_call ent91 hk42 rfl ?_)
 clear hk42
 rintro v O' ⟨A1, rfl, rb, rc, qs, N, O1, rfl, rfl, ⟨os, sn, ob, oc, hks, rfl, hnd, hos, hsl, hsn9⟩, hgl, hlenN, hE, hen⟩
 refine ⟨Sub.ca ([rowI rb rc 48 1 (vals qs)] ++ itms 3 qs ++ [oI bC 48 [(.slice ob os.length oc)], rowI ob oc 3 1 (nats os), oI bD 23 [(.slice (aD bB) d.next.length d.next.length)], rowI (aD bB) d.next.length 4 1 (bools sn), oI z2 25 [(vI d.vars), (vI 0), nS, nS]]), ?_⟩
 refine DO.sub (O' := [rowI rb rc 48 1 (vals qs), oI z1 25 [(vI d.vars), (vI d.start), (.slice nb d.next.length nc), (.slice fb d.final.length fc)], oI bC 48 [(.slice ob os.length oc)], rowI ob oc 3 1 (nats os), oI bD 23 [(.slice (aD bB) d.next.length d.next.length)], rowI (aD bB) d.next.length 4 1 (bools sn), oI z2 25 [(vI d.vars), (vI 0), nS, nS]] ++ itms 3 qs) (Sub.ca []) ?_
 refine DO.q rfl (q_move rfl) (DO.q rfl (q_extract (vs := _) rfl rfl) (DO.q rfl (q_extract (vs := _) rfl rfl) (DO.q rfl (q_fa uT25 rfl inf22 rfl rfl) ?_)))
 refine DO.loud rfl rfl (l_sb (v := (.slice rb N rc)) (vs := [(.slice rb N rc)]) 6 inf22 rfl rfl rfl rfl rfl rfl (by simp [putL]) ⟨Sub.pick0 [1] [rowI rb rc 48 1 (vals qs), oI z1 25 [(vI d.vars), (vI d.start), (.slice nb d.next.length nc), (.slice fb d.final.length fc)], oI bC 48 [(.slice ob os.length oc)], rowI ob oc 3 1 (nats os), oI bD 23 [(.slice (aD bB) d.next.length d.next.length)], rowI (aD bB) d.next.length 4 1 (bools sn), oI z2 25 [(vI d.vars), (vI 0), (.slice rb N rc), nS]] (itms 3 qs) rfl rfl, ?_⟩)
 refine DO.done ?_
 refine T.s (T.s (T.rg (TO.q (q_lb 2 uT48 rfl rfl rfl rfl) (TO.q (q_len uT48 rfl) (TO.qm rfl (TO.nl (T.block ?_)))))))
 have hol := nodup_bound hnd hos
 refine T.nilRow 4 1 ?_
 refine T.loop (fun (k : Nat) ρ O => ∃ (fb9 : Option Addr) (fc9 : Nat), O = ([rowI fb9 fc9 4 1 (bools ((os.take k).map fun o => d.final.getD o false)), rowI rb rc 48 1 (vals qs), oI z1 25 [(vI d.vars), (vI d.start), (.slice nb d.next.length nc), (.slice fb d.final.length fc)], oI bC 48 [(.slice ob os.length oc)], rowI ob oc 3 1 (nats os), oI bD 23 [(.slice (aD bB) d.next.length d.next.length)], rowI (aD bB) d.next.length 4 1 (bools sn), oI z2 25 [(vI d.vars), (vI 0), (.slice rb N rc), (.slice fb9 k fc9)]] ++ (itms 3 qs)) ∧ k ≤ os.length ∧ Heads [(0, (.agg #[(vI d.vars), (vI d.start), (.slice nb d.next.length nc), (.slice fb d.final.length fc)])), (1, (.pointer (aD z1))), (2, (.pointer (aD z2))), (3, vI 0), (4, vI ((0 : Nat) : Int)), (5, (.pointer (aD bC))), (6, (.pointer (aD bD))), (7, (.func (.func 89) #[] #[(.pointer (aD z1)), (.pointer (aD bC)), (.pointer (aD bD))])), (46, (.slice ob os.length oc)), (47, vI (os.length : Int)), (48, vI (k : Int))] ρ) (fun k => os.length - k) 0 ?_ ?_
 ·exact ⟨none, 0, rfl, Nat.zero_le _, (.of rfl)⟩
 rintro k ρ O ⟨fb9, fc9, rfl, hk, hH⟩
 obtain ⟨ρ0, rfl⟩ := hH.elim
 clear hH
 refine T.s (T.rg (TO.q (q_lss rfl rfl) (TO.nl (T.s (T.condP rfl (fun hc => ?_) (fun hc => ?_))))))
 ·have hlt49 : k < os.length := by omega
  have hok : os[k] < d.next.length := hos _ (List.getElem_mem hlt49)
  have hokf : os[k] < d.final.length := by have := hv.fin; omega
  refine T.skip (T.s (T.block (T.s (T.rg (TO.q (q_ix (i := k) uT48 inf3 rfl rfl (rowO (mG 4 rfl))) (TO.q (q_ld uT3 rfl rfl (rowO (mG 4 rfl)) nats_get) (TO.qa rfl (TO.nl ?_))))))))
  refine T.draws [oI z1 25 [(vI d.vars), (vI d.start), (.slice nb d.next.length nc), (.slice fb d.final.length fc)], oI z2 25 [(vI d.vars), (vI 0), (.slice rb N rc), (.slice fb9 k fc9)]] [(0, 0), (1, 0), (2, 0), (3, 0), (4, 0), (5, 0), (6, 0), (7, 1), (8, 2), (9, 2), (10, 2)] mixed (by kernel_rfl) (Sub.pick0 [2, 6] [rowI fb9 fc9 4 1 (bools ((os.take k).map fun o => d.final.getD o false)), rowI rb rc 48 1 (vals qs), oI z1 25 [(vI d.vars), (vI d.start), (.slice nb d.next.length nc), (.slice fb d.final.length fc)], oI bC 48 [(.slice ob os.length oc)], rowI ob oc 3 1 (nats os), oI bD 23 [(.slice (aD bB) d.next.length d.next.length)], rowI (aD bB) d.next.length 4 1 (bools sn), oI z2 25 [(vI d.vars), (vI 0), (.slice rb N rc), (.slice fb9 k fc9)]] (itms 3 qs) rfl rfl) (fun _ _ _ h => h) ?_
  refine DO.q rfl (q_fa uT25 rfl inf23 rfl rfl) (DO.q rfl (q_lb 1 uT23 rfl rfl rfl rfl) (DO.q rfl (q_fa uT25 rfl inf23 rfl rfl) (DO.q rfl (q_lb 0 uT23 rfl rfl rfl rfl) (DO.q rfl (q_move rfl) (DO.q rfl (q_ix (i := os[k]) uT23 inf4 rfl rfl (Sl.o h.final)) (DO.q rfl (q_ld uT4 rfl rfl (Sl.o h.final) bools_get) ?_))))))
  refine DO.loud rfl rfl (l_build1 (v := .bool d.final[os[k]]) uT23 inf4 rfl rfl rfl (fun z3 => ⟨Sub.pick0 [3, 7] [rowI (aD z3) 1 4 1 [.bool d.final[os[k]]], rowI fb9 fc9 4 1 (bools ((os.take k).map fun o => d.final.getD o false)), rowI rb rc 48 1 (vals qs), oI z1 25 [(vI d.vars), (vI d.start), (.slice nb d.next.length nc), (.slice fb d.final.length fc)], oI bC 48 [(.slice ob os.length oc)], rowI ob oc 3 1 (nats os), oI bD 23 [(.slice (aD bB) d.next.length d.next.length)], rowI (aD bB) d.next.length 4 1 (bools sn), oI z2 25 [(vI d.vars), (vI 0), (.slice rb N rc), (.slice fb9 k fc9)]] (itms 3 qs) rfl rfl, ?_⟩))
  refine DO.last rfl rfl (l_append 1 uT23 uT23 inf4 rfl rfl rfl rfl (by simp; omega) (by decide) (Src.row (j := 0) rfl (by simp)) (by simp [oneB]) (by omega) (by decide) (by decide) (fun z4 zc5 => ?_))
  refine DO.last rfl rfl (LT.oq rfl rfl (q_fa uT25 rfl inf23 rfl rfl) ?_)
  refine DO.last rfl rfl (l_sb (v := (.slice z4 (k + 1) zc5)) (vs := [(.slice z4 (k + 1) zc5)]) 8 inf23 rfl rfl rfl rfl rfl rfl (by simp [putL]) ?_)
  refine DO.sub (O' := ([rowI z4 zc5 4 1 ((bools ((os.take k).map fun o => d.final.getD o false)) ++ [.bool d.final[os[k]]]), rowI rb rc 48 1 (vals qs), oI z1 25 [(vI d.vars), (vI d.start), (.slice nb d.next.length nc), (.slice fb d.final.length fc)], oI bC 48 [(.slice ob os.length oc)], rowI ob oc 3 1 (nats os), oI bD 23 [(.slice (aD bB) d.next.length d.next.length)], rowI (aD bB) d.next.length 4 1 (bools sn), oI z2 25 [(vI d.vars), (vI 0), (.slice rb N rc), (.slice z4 (k + 1) zc5)]] ++ (itms 3 qs))) (Sub.pickR [1, 1, 1, 1, 1, 1, 1, 1] [rowI (aD z3) 1 4 1 [.bool d.final[os[k]]], rowI z4 zc5 4 1 ((bools ((os.take k).map fun o => d.final.getD o false)) ++ [.bool d.final[os[k]]]), rowI rb rc 48 1 (vals qs), oI z1 25 [(vI d.vars), (vI d.start), (.slice nb d.next.length nc), (.slice fb d.final.length fc)], oI bC 48 [(.slice ob os.length oc)], rowI ob oc 3 1 (nats os), oI bD 23 [(.slice (aD bB) d.next.length d.next.length)], rowI (aD bB) d.next.length 4 1 (bools sn), oI z2 25 [(vI d.vars), (vI 0), (.slice rb N rc), (.slice z4 (k + 1) zc5)]] (itms 3 qs) rfl rfl) ?_
  refine DO.done ?_
  refine T.rg (TO.q (q_inc rfl rfl (by omega)) (TO.qm rfl (TO.nl ?_)))
  have hst : (List.take (k + 1) os).map (fun o => d.final.getD o false) = (List.take k os).map (fun o => d.final.getD o false) ++ [d.final[os[k]]] := by
   rw [List.take_succ_eq_append_getElem hlt49, List.map_append]; simp [hokf]
  exact ⟨k + 1, by omega, z4, zc5, by rw [hst, show bools ((List.take k os).map (fun o => d.final.getD o false) ++ [d.final[os[k]]]) = bools ((List.take k os).map fun o => d.final.getD o false) ++ [.bool d.final[os[k]]] from List.map_append], by omega, (.of rfl)⟩
 have hge49 : ¬ k < os.length := by omega
 refine T.exit ?_
 refine T.s (T.rg (TO.q (q_la 7 uT25 rfl inf25 rfl rfl rfl) (TO.l rfl (l_sb (v := (.agg #[(vI d.vars), (vI 0), (.slice rb N rc), (.slice fb9 k fc9)])) (vs := [(vI d.vars), (vI 0), (.slice rb N rc), (.slice fb9 k fc9)]) 7 inf25 rfl rfl rfl rfl rfl rfl (by simp [putL]) ?_))))
 refine TO.qa rfl (TO.nl (T.ret (Res.drop ?_)))
 refine Res.cell1b (vI 0) (i := 7) Tryz.results68 uT25 rfl inf25 rfl rfl rfl rfl ?_
 have hke : k = os.length := by omega
 obtain ⟨ho, hN9⟩ := ren_order hen hks hlenN (nodup_bound hnd hos)
 have hnx := ren_next hks hE ho hN9
 have hfx : (List.take k os).map (fun o => d.final.getD o false) = (renum d).final := by rw [List.take_of_length_le (by omega), ho]; rfl
 have hl1 : (renum d).next.length = N := by rw [← hnx, hE.len]
 have hl2 : (renum d).final.length = k := by rw [← hfx, List.length_map, List.length_take]; omega
 refine ⟨[rowI rb rc 48 1 (vals qs), rowI fb9 fc9 4 1 (bools ((os.take k).map fun o => d.final.getD o false))] ++ itms 3 qs, (Sub.pickR [1, 0] [rowI fb9 fc9 4 1 (bools ((os.take k).map fun o => d.final.getD o false)), rowI rb rc 48 1 (vals qs), oI z1 25 [(vI d.vars), (vI d.start), (.slice nb d.next.length nc), (.slice fb d.final.length fc)], oI bC 48 [(.slice ob os.length oc)], rowI ob oc 3 1 (nats os), oI bD 23 [(.slice (aD bB) d.next.length d.next.length)], rowI (aD bB) d.next.length 4 1 (bools sn), oI z2 25 [(vI d.vars), (vI 0), (.slice rb N rc), (.slice fb9 k fc9)]] (itms 3 qs) rfl rfl), rb, rc, fb9, fc9, qs, ?_, by rw [hfx], hnx⟩
 show Value.tuple #[Value.agg (List.toArray [vI d.vars, vI 0, .slice rb N rc, .slice fb9 k fc9]), _] = Value.tuple #[Value.agg (List.toArray [vI d.vars, vI 0, .slice rb (renum d).next.length rc, .slice fb9 (renum d).final.length fc9]), _]
 rw [hl1, hl2]
end Go.Proofs.YtnpehjpookcfkaaGreatDoor

