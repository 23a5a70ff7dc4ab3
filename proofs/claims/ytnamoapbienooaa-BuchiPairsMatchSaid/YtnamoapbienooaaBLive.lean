/- Contracts of functions of the program (BDel, BChk, BChk2, BScc, BComp, BLive): what each call answers and that it leaves memory as it was. Conditions: those each theorem names. -/
import Derived.Test.YtnamoapbienooaaLv
set_option linter.unusedSectionVars false
set_option linter.unusedSimpArgs false
set_option linter.unusedVariables false
set_option linter.unnecessarySimpa false
set_option maxRecDepth 20000
set_option maxHeartbeats 4000000
namespace Go.Proofs.Ytnamoapbienooaa
open Go.Lx Go.RowKit
set_option linter.unusedVariables false
set_option linter.unusedSimpArgs false
theorem filter_any {α : Type} {l : List α} {p : α → Bool} (h : l.any p = false) : l.filter (fun x => !p x) = l := by
 rw [List.filter_eq_self]; intro x hx
 rw [List.any_eq_false] at h
 have := h x hx
 simpa using this
theorem deleteI (base : World) (b : Option Addr) (c : Nat) (xs : List Int) (hb : xs.length ≤ 1000000000) (OO : List Lx.Item) (fv : Value) (p : Int → Bool) (hy : ∀ x ∈ xs, CallV Try.prog base fv [.int .i64 x] OO (fun v O' => v = .bool (p x) ∧ O' = OO)) :
  CallT Try.prog base 69 [.slice b xs.length c, fv] ([rowI b c 3 1 (ints xs)] ++ OO) (fun v O' => v = .slice b (xs.filter fun x => !p x).length c ∧ O' = [rowI b c 3 1 (ints (xs.filter fun x => !p x))] ++ OO) := by
 refine CallT.enter Try.func69 rfl Try.ntmps69 rfl ?_
 refine T.seq (T.rg (TO.qa rfl (TO.nil (T.seq (T.rg (TO.qm rfl (TO.qm rfl ?_)))))))
 have hk10 := indexFuncI base b c xs ([rowI b c 3 1 (ints xs)] ++ OO) (rowO List.mem_cons_self) (by omega) fv p (fun x hx => ((CallV.atR [rowI b c 3 1 (ints xs)] (hy x (hx))).mono (fun v O' ⟨A', e1, e2, e3⟩ => ⟨e2, by rw [e1, e3]⟩)))
 refine TO.l rfl (l_call ent101 hk10 rfl ?_)
 clear hk10
 rintro vr O' ⟨i0, rfl, hi0, rfl⟩
 refine TO.qa rfl (TO.nil (T.seq (T.seq (T.rg (TO.qm rfl (TO.q (q_eql rfl rfl) (TO.nil (T.condP rfl (fun hc => ?_) (fun hc => ?_)))))))))
 ·have hany : xs.any p = false := by
   rcases hi0 with ⟨_, h⟩ | ⟨k, hk, h, _⟩
   ·exact h
   ·omega
  refine T.seq (T.rg (TO.qm rfl (TO.qa rfl (TO.nil (T.ret ?_)))))
  refine Res.one (.slice b xs.length c) Try.results69 rfl ?_
  have hfl : (xs.filter fun x => !p x) = xs := filter_any hany
  exact ⟨by rw [hfl], by rw [hfl]⟩
 obtain ⟨k0, hk0, hik, hpk, hpre⟩ : ∃ (k : Nat) (hk : k < xs.length), i0 = (k : Int) ∧ p xs[k] = true ∧ (xs.take k).any p = false := by
  rcases hi0 with ⟨h, _⟩ | h
  ·omega
  ·exact h
 refine T.skip (T.seq (T.seq (T.rg (TO.q (QT.cast (q_move rfl) (v' := .int .i64 ((k0 : Nat) : Int)) (by show Value.int _ _ = _; rw [hik])) (TO.q (q_addN (a := k0) (b := 1) rfl rfl (by omega)) (TO.qa rfl (TO.nil (T.block ?_))))))))
 refine T.loop (fun (j : Nat) ρ O => ∃ (ys : List Int) (i : Nat), O = ([rowI b c 3 1 (ints ys)] ++ OO) ∧ j ≤ xs.length ∧ i < j ∧ ys.length = xs.length ∧ ys.take i = (xs.take j).filter (fun x => !p x) ∧ (∀ q, j ≤ q → ys[q]? = xs[q]?) ∧ Heads [(0, (.slice b xs.length c)), (1, fv), (4, nS), (5, .int .i64 (i : Int)), (6, .int .i64 (j : Int))] ρ) (fun j => xs.length - j) (k0 + 1) ?_ ?_
 ·refine ⟨xs, k0, rfl, by omega, by omega, rfl, ?_, fun q hq => rfl, ⟨rfl, rfl, rfl, by rw [← hik]; rfl, rfl, trivial⟩⟩
  rw [List.take_succ_eq_append_getElem hk0, List.filter_append, filter_any hpre]; simp [hpk]
 rintro j ρ O ⟨ys, i, rfl, hj, hij, hyl, hyt, hyr, hH⟩
 obtain ⟨ρ0, rfl⟩ := hH.elim
 clear hH
 have hgo := trivial
 refine T.have (φ := xs.length ≤ c) (fun w hI => by have := rowP.cap (hI.row (i := 0) rfl); rw [List.length_map, hyl] at this; exact this) (fun hcap => ?_)
 refine T.seq (T.seq (T.rg (TO.qm rfl (TO.qm rfl (TO.q (q_len Try.underlying22 rfl) (TO.q (q_lss rfl rfl) (TO.nil (T.condP rfl (fun hc => ?_) (fun hc => ?_)))))))))
 ·have hlt19 : j < xs.length := by omega
  have hyg : ys[j]'(by omega) = xs[j] := by have h9 := hyr j (Nat.le_refl _); rw [List.getElem?_eq_getElem (by omega), List.getElem?_eq_getElem hlt19] at h9; exact Option.some.inj h9
  refine T.skip (T.seq (T.block (T.seq (T.rg (TO.qm rfl (TO.qm rfl (TO.q (q_ix (i := j) Try.underlying22 inf3 rfl rfl (rowO (mG 0 rfl))) (TO.q (q_ld Try.underlying3 rfl rfl (rowO (mG 0 rfl)) (show (ints ys)[j]? = _ by rw [ints_get (by omega), hyg])) (TO.qa rfl (TO.nil (T.seq (T.rg (TO.qm rfl (TO.qm rfl ?_))))))))))))))
  have hk28 := (show CallV Try.prog base fv [.int .i64 xs[j]] ([rowI b c 3 1 (ints ys)] ++ OO) (fun v O' => v = .bool (p xs[j]) ∧ O' = [rowI b c 3 1 (ints ys)] ++ OO) from (CallV.atR [rowI b c 3 1 (ints ys)] (hy xs[j] (List.getElem_mem hlt19))).mono (fun v O' ⟨A', e1, e2, e3⟩ => ⟨e2, by rw [e1, e3]⟩))
  refine TO.l rfl (l_callG hk28 rfl rfl ?_)
  clear hk28
  rintro vr O' ⟨rfl, rfl⟩
  refine TO.q (q_not rfl) (TO.nil (T.cond rfl (fun hc => ?_) (fun hc => ?_)))
  ·refine T.seq ?_
   refine T.rg (TO.qm rfl (TO.qm rfl (TO.qm rfl (TO.q (q_ix (i := i) Try.underlying22 inf3 rfl rfl (rowO (mG 0 rfl))) (TO.l rfl (l_st (j := i) (v := .int .i64 xs[j]) (vs := [(.int .i64 xs[j])]) (cs := ints ys) 0 inf3 rfl rfl rfl rfl rfl (by simp) rfl (by first | (simp; omega) | (simp_all; omega)) ?_))))))
   refine TO.sub (O' := ([rowI b c 3 1 (ints (ys.set i xs[j]))] ++ OO)) (by rw [show putL (ints ys) i [(.int .i64 xs[j])] = ints (ys.set i xs[j]) from (by simp [putL])]; exact Sub.of (List.Sublist.refl _)) ?_
   refine TO.nil (T.rg (TO.qm rfl (TO.q (q_addN (a := i) (b := 1) rfl rfl (by omega)) (TO.qa rfl (TO.nil (T.rg (TO.qm rfl (TO.q (q_addN (a := j) (b := 1) rfl rfl (by omega)) (TO.qa rfl (TO.nil ?_))))))))))
   refine ⟨j + 1, by omega, ys.set i xs[j], i + 1, rfl, by omega, by omega, by simp [hyl], ?_, fun q hq => by rw [List.getElem?_set_ne (by omega)]; exact hyr q (by omega), ⟨rfl, rfl, rfl, rfl, rfl, trivial⟩⟩
   rw [List.take_succ_eq_append_getElem hlt19, List.filter_append, ← hyt, List.take_succ_eq_append_getElem (by simp; omega), List.getElem_set_self, List.take_set_of_le (Nat.le_refl _)]
   have hpj : p xs[j] = false := by simpa using hc
   simp [hpj]
  refine T.skip (T.rg (TO.qm rfl (TO.q (q_addN (a := j) (b := 1) rfl rfl (by omega)) (TO.qa rfl (TO.nil ?_)))))
  refine ⟨j + 1, by omega, ys, i, rfl, by omega, by omega, hyl, ?_, fun q hq => hyr q (by omega), ⟨rfl, rfl, rfl, rfl, rfl, trivial⟩⟩
  rw [List.take_succ_eq_append_getElem hlt19, List.filter_append, ← hyt]
  have hpj : p xs[j] = true := by simpa using hc
  simp [hpj]
 have hge19 : ¬ j < xs.length := by omega
 refine T.exit ?_
 refine T.seq ?_
 have hje : j = xs.length := by omega
 rw [hje, List.take_length] at hyt
 have hil : (xs.filter fun x => !p x).length = i := by rw [← hyt, List.length_take]; omega
 refine T.rg (TO.qm rfl (TO.qm rfl (TO.q (q_sliceFrom (lo := i) Try.underlying22 inf3 rfl rfl (by omega) (by omega)) (TO.l rfl (l_clear (cs := ints ys) (lo := i) 0 Try.underlying22 inf3 rfl rfl (by rw [List.length_map, hyl]; rfl) rfl (by rw [List.length_map]; omega) ?_)))))
 refine TO.nil (T.seq (T.rg (TO.qm rfl (TO.qm rfl (TO.q (q_sliceTo (hi := i) Try.underlying22 inf3 rfl rfl (by omega)) (TO.qa rfl (TO.nil (T.ret ?_))))))))
 refine Res.one (.slice b i c) Try.results69 rfl ?_
 exact ⟨by rw [hil], by rw [← hyt, show ints (ys.take i) = (ints ys).take i from List.map_take]; rfl⟩
end Go.Proofs.Ytnamoapbienooaa

set_option maxRecDepth 20000
set_option maxHeartbeats 4000000
namespace Go.Proofs.Ytnamoapbienooaa
open Go.Lx Go.RowKit
set_option linter.unusedVariables false
set_option linter.unusedSimpArgs false
theorem longF (w : World) (b : Option Addr) (c : Nat) (qs : List BuRef) (hS : Sl w b (busC qs)) (hq : ∀ q ∈ qs, BuAt w q.b q.sb q.eb q.tb q.vs) (hb : qs.length < 9223372036854775807) (hb2 : ∀ q ∈ qs, q.b.sets.length < 9223372036854775807) :
  PureT Try.prog 11 [.slice b qs.length c] w fun v N => v = .bool (qs.any fun q => longB q.b) ∧ N = [] := by
 refine CallT.enter Try.func11 rfl Try.ntmps11 rfl ?_
 refine T.seq (T.rg (TO.qa rfl (TO.nil (T.seq (T.seq (T.rg (TO.qa rfl (TO.nil (T.block ?_)))))))))
 refine T.loop (fun (k : Nat) ρ O => O = [] ∧ k ≤ qs.length ∧ (qs.take k).any (fun q => longB q.b) = false ∧ Heads [(0, (.slice b qs.length c)), (3, .int .i64 (k : Int))] ρ) (fun k => qs.length - k) 0 ?_ ?_
 ·exact ⟨rfl, Nat.zero_le _, rfl, ⟨rfl, rfl, trivial⟩⟩
 rintro k ρ O ⟨rfl, hk, hany, hH⟩
 obtain ⟨ρ0, rfl⟩ := hH.elim
 clear hH
 refine T.seq (T.seq (T.rg (TO.qm rfl (TO.qm rfl (TO.q (q_len Try.underlying71 rfl) (TO.q (q_lss rfl rfl) (TO.nil (T.condP rfl (fun hc => ?_) (fun hc => ?_)))))))))
 ·have hlt8 : k < qs.length := by omega
  have hbb := hb2 _ (List.getElem_mem hlt8)
  have hvl := (hq _ (List.getElem_mem hlt8)).rows.1
  refine T.skip (T.seq (T.block (T.seq (T.seq (T.rg (TO.qm rfl (TO.qm rfl (TO.q (q_ixK (i := k) Try.underlying71 inf26 rfl rfl (Sl.o hS) (by first | assumption | omega | (simp; omega) | simp_all) (by first | (rw [bus_len]; omega) | (simp [bus_len]; omega) | (simp_all [bus_len]; omega))) (TO.q (q_fieldEl Try.underlying26 rfl inf22 rfl rfl (Sl.o hS) (by first | (rw [bus_len]; omega) | (simp [bus_len]; omega) | (simp_all [bus_len]; omega))) (TO.q (q_ld Try.underlying22 rfl rfl (Sl.o hS) (bus_get (by first | assumption | omega | (simp; omega) | simp_all) 2 (by decide))) (TO.q (q_len Try.underlying22 rfl) (TO.q (q_gtr rfl rfl) ?_))))))))))))
  by_cases hs18 : (qs[k].b.start.length : Int) > 40
  ·refine TO.q (QT.toB (q_move rfl) (decide_eq_true hs18)) ?_
   refine TO.pd rfl rfl (TO.pd rfl rfl (TO.pd rfl rfl (TO.pd rfl rfl (TO.pd rfl rfl (TO.pd rfl rfl (TO.pd rfl rfl (TO.q (q_pick1 rfl rfl) (TO.qm rfl ?_))))))))
   refine TO.pd rfl rfl (TO.pd rfl rfl (TO.pd rfl rfl (TO.pd rfl rfl (TO.pd rfl rfl (TO.pd rfl rfl (TO.pd rfl rfl (TO.q (q_pick1 rfl rfl) (TO.qm rfl ?_))))))))
   refine TO.pd rfl rfl (TO.pd rfl rfl (TO.pd rfl rfl (TO.pd rfl rfl (TO.pd rfl rfl (TO.pd rfl rfl (TO.pd rfl rfl (TO.pd rfl rfl ?_)))))))
   refine TO.pd rfl rfl (TO.pd rfl rfl (TO.pd rfl rfl (TO.pd rfl rfl (TO.pd rfl rfl (TO.pd rfl rfl (TO.q (q_pick1 rfl rfl) (TO.nil ?_)))))))
   refine T.cond1 rfl ?_
   refine T.seq (T.rg (TO.qa rfl (TO.nil (T.ret ?_))))
   refine Res.one (.bool true) Try.results11 rfl ?_
   exact ⟨congrArg Value.bool ((any_hit hlt8 (show longB _ = true by unfold longB; rw [show longN qs[k].b = true from decide_eq_true (by omega)]; rfl)).symm), rfl⟩
  refine TO.q (QT.toB (q_move rfl) (decide_eq_false hs18)) (TO.gq rfl rfl (q_move rfl) (TO.gq rfl rfl (q_move rfl) (TO.gq rfl rfl (q_ixK (i := k) Try.underlying71 inf26 rfl rfl (Sl.o hS) (by first | assumption | omega | (simp; omega) | simp_all) (by first | (rw [bus_len]; omega) | (simp [bus_len]; omega) | (simp_all [bus_len]; omega))) (TO.gq rfl rfl (q_fieldEl Try.underlying26 rfl inf23 rfl rfl (Sl.o hS) (by first | (rw [bus_len]; omega) | (simp [bus_len]; omega) | (simp_all [bus_len]; omega))) (TO.gq rfl rfl (q_ld Try.underlying23 rfl rfl (Sl.o hS) (bus_get (by first | assumption | omega | (simp; omega) | simp_all) 3 (by decide))) (TO.gq rfl rfl (q_len Try.underlying23 rfl) (TO.gq rfl rfl (q_gtr rfl rfl) ?_)))))))
  refine TO.q (q_pick0 rfl rfl) ?_
  by_cases hs27 : (qs[k].b.edges.length : Int) > 60
  ·refine TO.q (QT.toB (q_move rfl) (decide_eq_true hs27)) ?_
   refine TO.pd rfl rfl (TO.pd rfl rfl (TO.pd rfl rfl (TO.pd rfl rfl (TO.pd rfl rfl (TO.pd rfl rfl (TO.pd rfl rfl (TO.q (q_pick1 rfl rfl) (TO.qm rfl ?_))))))))
   refine TO.pd rfl rfl (TO.pd rfl rfl (TO.pd rfl rfl (TO.pd rfl rfl (TO.pd rfl rfl (TO.pd rfl rfl (TO.pd rfl rfl (TO.pd rfl rfl ?_)))))))
   refine TO.pd rfl rfl (TO.pd rfl rfl (TO.pd rfl rfl (TO.pd rfl rfl (TO.pd rfl rfl (TO.pd rfl rfl (TO.q (q_pick1 rfl rfl) (TO.nil ?_)))))))
   refine T.cond1 rfl ?_
   refine T.seq (T.rg (TO.qa rfl (TO.nil (T.ret ?_))))
   refine Res.one (.bool true) Try.results11 rfl ?_
   exact ⟨congrArg Value.bool ((any_hit hlt8 (show longB _ = true by unfold longB; rw [show longN qs[k].b = true from decide_eq_true (by omega)]; rfl)).symm), rfl⟩
  refine TO.q (QT.toB (q_move rfl) (decide_eq_false hs27)) (TO.gq rfl rfl (q_move rfl) (TO.gq rfl rfl (q_move rfl) (TO.gq rfl rfl (q_ixK (i := k) Try.underlying71 inf26 rfl rfl (Sl.o hS) (by first | assumption | omega | (simp; omega) | simp_all) (by first | (rw [bus_len]; omega) | (simp [bus_len]; omega) | (simp_all [bus_len]; omega))) (TO.gq rfl rfl (q_fieldEl Try.underlying26 rfl inf24 rfl rfl (Sl.o hS) (by first | (rw [bus_len]; omega) | (simp [bus_len]; omega) | (simp_all [bus_len]; omega))) (TO.gq rfl rfl (q_ld Try.underlying24 rfl rfl (Sl.o hS) (bus_get (by first | assumption | omega | (simp; omega) | simp_all) 4 (by decide))) (TO.gq rfl rfl (q_len Try.underlying24 rfl) (TO.gq rfl rfl (q_gtr rfl rfl) ?_)))))))
  refine TO.q (q_pick0 rfl rfl) ?_
  by_cases hs36 : (qs[k].b.sets.length : Int) > 12
  ·refine TO.q (QT.toB (q_move rfl) (decide_eq_true hs36)) ?_
   refine TO.pd rfl rfl (TO.pd rfl rfl (TO.pd rfl rfl (TO.pd rfl rfl (TO.pd rfl rfl (TO.pd rfl rfl (TO.pd rfl rfl (TO.pd rfl rfl ?_)))))))
   refine TO.pd rfl rfl (TO.pd rfl rfl (TO.pd rfl rfl (TO.pd rfl rfl (TO.pd rfl rfl (TO.pd rfl rfl (TO.q (q_pick1 rfl rfl) (TO.nil ?_)))))))
   refine T.cond1 rfl ?_
   refine T.seq (T.rg (TO.qa rfl (TO.nil (T.ret ?_))))
   refine Res.one (.bool true) Try.results11 rfl ?_
   exact ⟨congrArg Value.bool ((any_hit hlt8 (show longB _ = true by unfold longB; rw [show longN qs[k].b = true from decide_eq_true (by omega)]; rfl)).symm), rfl⟩
  refine TO.q (QT.toB (q_move rfl) (decide_eq_false hs36)) (TO.gq rfl rfl (q_move rfl) (TO.gq rfl rfl (q_move rfl) (TO.gq rfl rfl (q_ixK (i := k) Try.underlying71 inf26 rfl rfl (Sl.o hS) (by first | assumption | omega | (simp; omega) | simp_all) (by first | (rw [bus_len]; omega) | (simp [bus_len]; omega) | (simp_all [bus_len]; omega))) (TO.gq rfl rfl (q_fieldEl Try.underlying26 rfl inf3 rfl rfl (Sl.o hS) (by first | (rw [bus_len]; omega) | (simp [bus_len]; omega) | (simp_all [bus_len]; omega))) (TO.gq rfl rfl (q_ld Try.underlying3 rfl rfl (Sl.o hS) (bus_get (by first | assumption | omega | (simp; omega) | simp_all) 1 (by decide))) (TO.gq rfl rfl (q_gtr rfl rfl) ?_))))))
  by_cases hs43 : qs[k].b.states > 20
  ·refine TO.gq rfl rfl (QT.toB (q_move rfl) (decide_eq_true hs43)) ?_
   refine TO.gq rfl rfl (q_move rfl) (TO.gq rfl rfl (q_move rfl) (TO.gq rfl rfl (q_ixK (i := k) Try.underlying71 inf26 rfl rfl (Sl.o hS) (by first | assumption | omega | (simp; omega) | simp_all) (by first | (rw [bus_len]; omega) | (simp [bus_len]; omega) | (simp_all [bus_len]; omega))) (TO.gq rfl rfl (q_fieldEl Try.underlying26 rfl inf3 rfl rfl (Sl.o hS) (by first | (rw [bus_len]; omega) | (simp [bus_len]; omega) | (simp_all [bus_len]; omega))) (TO.gq rfl rfl (q_ld Try.underlying3 rfl rfl (Sl.o hS) (bus_get (by first | assumption | omega | (simp; omega) | simp_all) 1 (by decide))) (TO.gq rfl rfl (q_leq rfl rfl) (TO.gq rfl rfl (q_pick1 rfl rfl) (TO.q (q_pick0 rfl rfl) ?_)))))))
   refine TO.nil (T.condP rfl (fun hc => ?_) (fun hc => ?_))
   ·refine T.seq ?_
    refine T.rg (TO.qa rfl (TO.nil (T.ret ?_)))
    refine Res.one (.bool true) Try.results11 rfl ?_
    exact ⟨congrArg Value.bool ((any_hit hlt8 (show longB _ = true by unfold longB; rw [show longN qs[k].b = true from decide_eq_true (by omega)]; rfl)).symm), rfl⟩
   refine T.skip (T.seq (T.rg (TO.qa rfl (TO.nil (T.block ?_)))))
   refine T.loop (fun (j : Nat) ρ O => O = [] ∧ j ≤ qs[k].b.sets.length ∧ longN qs[k].b = false ∧ (qs[k].b.sets.take j).any (fun r => decide (40 < r.length)) = false ∧ Heads [(0, (.slice b qs.length c)), (3, .int .i64 (k : Int)), (4, .int .i64 (j : Int))] ρ) (fun j => qs[k].b.sets.length - j) 0 ?_ ?_
   ·refine ⟨rfl, Nat.zero_le _, decide_eq_false (by omega), rfl, ⟨rfl, rfl, rfl, trivial⟩⟩
   rintro j ρ O ⟨rfl, hj, hnl, hj2, hH⟩
   obtain ⟨ρ0, rfl⟩ := hH.elim
   clear hH
   refine T.seq (T.seq (T.rg (TO.qm rfl (TO.qm rfl (TO.qm rfl (TO.q (q_ixK (i := k) Try.underlying71 inf26 rfl rfl (Sl.o hS) (by first | assumption | omega | (simp; omega) | simp_all) (by first | (rw [bus_len]; omega) | (simp [bus_len]; omega) | (simp_all [bus_len]; omega))) (TO.q (q_fieldEl Try.underlying26 rfl inf24 rfl rfl (Sl.o hS) (by first | (rw [bus_len]; omega) | (simp [bus_len]; omega) | (simp_all [bus_len]; omega))) (TO.q (q_ld Try.underlying24 rfl rfl (Sl.o hS) (bus_get (by first | assumption | omega | (simp; omega) | simp_all) 4 (by decide))) (TO.q (q_len Try.underlying24 rfl) (TO.q (q_lss rfl rfl) (TO.nil (T.condP rfl (fun hc => ?_) (fun hc => ?_)))))))))))))
   ·have hlt59 : j < qs[k].b.sets.length := by omega
    obtain ⟨vb, vc, g1, s1⟩ := (hq _ (List.getElem_mem hlt8)).rows.get hlt59
    refine T.skip (T.seq (T.block (T.seq (T.rg (TO.qm rfl (TO.qm rfl (TO.q (q_ixK (i := k) Try.underlying71 inf26 rfl rfl (Sl.o hS) (by first | assumption | omega | (simp; omega) | simp_all) (by first | (rw [bus_len]; omega) | (simp [bus_len]; omega) | (simp_all [bus_len]; omega))) (TO.q (q_fieldEl Try.underlying26 rfl inf24 rfl rfl (Sl.o hS) (by first | (rw [bus_len]; omega) | (simp [bus_len]; omega) | (simp_all [bus_len]; omega))) (TO.q (q_ld Try.underlying24 rfl rfl (Sl.o hS) (bus_get (by first | assumption | omega | (simp; omega) | simp_all) 4 (by decide))) (TO.qm rfl (TO.q (q_ix (i := j) Try.underlying24 inf22 rfl rfl (Sl.o (hq _ (List.getElem_mem hlt8)).out) (by first | assumption | omega | (simp; omega) | simp_all) (by rw [hvl]; exact hlt59)) (TO.q (q_ld Try.underlying22 rfl rfl (Sl.o (hq _ (List.getElem_mem hlt8)).out) g1) (TO.q (q_len Try.underlying22 rfl) (TO.q (q_gtr rfl rfl) (TO.nil (T.condP rfl (fun hc => ?_) (fun hc => ?_)))))))))))))))))
    ·have hlt71 : qs[k].b.sets[j].length > 40 := by omega
     refine T.seq (T.rg (TO.qa rfl (TO.nil (T.ret ?_))))
     refine Res.one (.bool true) Try.results11 rfl ?_
     exact ⟨congrArg Value.bool ((any_hit hlt8 (show longB _ = true by unfold longB; rw [any_hit hlt59 (decide_eq_true (by omega))]; simp)).symm), rfl⟩
    have hge71 : ¬ qs[k].b.sets[j].length > 40 := by omega
    refine T.skip (T.rg (TO.qm rfl (TO.q (q_addN (a := j) (b := 1) rfl rfl (by omega)) (TO.qa rfl (TO.nil ?_)))))
    exact ⟨j + 1, by omega, rfl, by omega, hnl, any_snoc hlt59 hj2 (decide_eq_false (by omega)), ⟨rfl, rfl, rfl, trivial⟩⟩
   have hge59 : ¬ j < qs[k].b.sets.length := by omega
   refine T.exit ?_
   refine T.rg (TO.qm rfl (TO.q (q_addN (a := k) (b := 1) rfl rfl (by omega)) (TO.qa rfl (TO.nil ?_))))
   refine ⟨k + 1, by omega, rfl, by omega, any_snoc hlt8 hany ?_, ⟨rfl, rfl, trivial⟩⟩
   show longB _ = false
   unfold longB; rw [hnl, any_done (by omega) hj2]; rfl
  refine TO.gq rfl rfl (QT.toB (q_move rfl) (decide_eq_false hs43)) (TO.pd rfl rfl (TO.pd rfl rfl (TO.pd rfl rfl (TO.pd rfl rfl (TO.pd rfl rfl (TO.pd rfl rfl (TO.gq rfl rfl (q_pick0 rfl rfl) ?_)))))))
  refine TO.q (q_pick0 rfl rfl) (TO.nil (T.cond0 rfl (T.skip (T.seq (T.rg (TO.qa rfl (TO.nil (T.block ?_))))))))
  refine T.loop (fun (j : Nat) ρ O => O = [] ∧ j ≤ qs[k].b.sets.length ∧ longN qs[k].b = false ∧ (qs[k].b.sets.take j).any (fun r => decide (40 < r.length)) = false ∧ Heads [(0, (.slice b qs.length c)), (3, .int .i64 (k : Int)), (4, .int .i64 (j : Int))] ρ) (fun j => qs[k].b.sets.length - j) 0 ?_ ?_
  ·refine ⟨rfl, Nat.zero_le _, decide_eq_false (by omega), rfl, ⟨rfl, rfl, rfl, trivial⟩⟩
  rintro j ρ O ⟨rfl, hj, hnl, hj2, hH⟩
  obtain ⟨ρ0, rfl⟩ := hH.elim
  clear hH
  refine T.seq (T.seq (T.rg (TO.qm rfl (TO.qm rfl (TO.qm rfl (TO.q (q_ixK (i := k) Try.underlying71 inf26 rfl rfl (Sl.o hS) (by first | assumption | omega | (simp; omega) | simp_all) (by first | (rw [bus_len]; omega) | (simp [bus_len]; omega) | (simp_all [bus_len]; omega))) (TO.q (q_fieldEl Try.underlying26 rfl inf24 rfl rfl (Sl.o hS) (by first | (rw [bus_len]; omega) | (simp [bus_len]; omega) | (simp_all [bus_len]; omega))) (TO.q (q_ld Try.underlying24 rfl rfl (Sl.o hS) (bus_get (by first | assumption | omega | (simp; omega) | simp_all) 4 (by decide))) (TO.q (q_len Try.underlying24 rfl) (TO.q (q_lss rfl rfl) (TO.nil (T.condP rfl (fun hc => ?_) (fun hc => ?_)))))))))))))
  ·have hlt59 : j < qs[k].b.sets.length := by omega
   obtain ⟨vb, vc, g1, s1⟩ := (hq _ (List.getElem_mem hlt8)).rows.get hlt59
   refine T.skip (T.seq (T.block (T.seq (T.rg (TO.qm rfl (TO.qm rfl (TO.q (q_ixK (i := k) Try.underlying71 inf26 rfl rfl (Sl.o hS) (by first | assumption | omega | (simp; omega) | simp_all) (by first | (rw [bus_len]; omega) | (simp [bus_len]; omega) | (simp_all [bus_len]; omega))) (TO.q (q_fieldEl Try.underlying26 rfl inf24 rfl rfl (Sl.o hS) (by first | (rw [bus_len]; omega) | (simp [bus_len]; omega) | (simp_all [bus_len]; omega))) (TO.q (q_ld Try.underlying24 rfl rfl (Sl.o hS) (bus_get (by first | assumption | omega | (simp; omega) | simp_all) 4 (by decide))) (TO.qm rfl (TO.q (q_ix (i := j) Try.underlying24 inf22 rfl rfl (Sl.o (hq _ (List.getElem_mem hlt8)).out) (by first | assumption | omega | (simp; omega) | simp_all) (by rw [hvl]; exact hlt59)) (TO.q (q_ld Try.underlying22 rfl rfl (Sl.o (hq _ (List.getElem_mem hlt8)).out) g1) (TO.q (q_len Try.underlying22 rfl) (TO.q (q_gtr rfl rfl) (TO.nil (T.condP rfl (fun hc => ?_) (fun hc => ?_)))))))))))))))))
   ·have hlt71 : qs[k].b.sets[j].length > 40 := by omega
    refine T.seq (T.rg (TO.qa rfl (TO.nil (T.ret ?_))))
    refine Res.one (.bool true) Try.results11 rfl ?_
    exact ⟨congrArg Value.bool ((any_hit hlt8 (show longB _ = true by unfold longB; rw [any_hit hlt59 (decide_eq_true (by omega))]; simp)).symm), rfl⟩
   have hge71 : ¬ qs[k].b.sets[j].length > 40 := by omega
   refine T.skip (T.rg (TO.qm rfl (TO.q (q_addN (a := j) (b := 1) rfl rfl (by omega)) (TO.qa rfl (TO.nil ?_)))))
   exact ⟨j + 1, by omega, rfl, by omega, hnl, any_snoc hlt59 hj2 (decide_eq_false (by omega)), ⟨rfl, rfl, rfl, trivial⟩⟩
  have hge59 : ¬ j < qs[k].b.sets.length := by omega
  refine T.exit ?_
  refine T.rg (TO.qm rfl (TO.q (q_addN (a := k) (b := 1) rfl rfl (by omega)) (TO.qa rfl (TO.nil ?_))))
  refine ⟨k + 1, by omega, rfl, by omega, any_snoc hlt8 hany ?_, ⟨rfl, rfl, trivial⟩⟩
  show longB _ = false
  unfold longB; rw [hnl, any_done (by omega) hj2]; rfl
 have hge8 : ¬ k < qs.length := by omega
 refine T.exit ?_
 refine T.seq (T.rg (TO.qa rfl (TO.nil (T.ret ?_))))
 refine Res.one (.bool false) Try.results11 rfl ?_
 exact ⟨congrArg Value.bool ((any_done (by omega) hany).symm), rfl⟩
theorem copyBuchi (w : World) (b : Bu) (sb eb tb : Option Addr) (sc ec tc : Nat) (vs : List Value) (h : BuAt w b sb eb tb vs) (hB : BuB b) :
  PureT Try.prog 15 [.agg (buC b sb sc eb ec tb tc).toArray] w fun v N => ∃ sb2 eb2 tb2 sc2 ec2 tc2 qs, v = .agg (buC b sb2 sc2 eb2 ec2 tb2 tc2).toArray ∧ N = [rowI sb2 sc2 3 1 (ints b.start), rowI eb2 ec2 54 4 (edsC b.edges), rowI tb2 tc2 22 1 (vals qs)] ++ itms 3 qs ∧ nums qs = b.sets := by
 refine CallT.enter Try.func15 rfl Try.ntmps15 rfl ?_
 refine T.seq (T.rg (TO.l rfl (l_box (v := (.agg (buC b sb sc eb ec tb tc).toArray)) (cs := (buC b sb sc eb ec tb tc)) rfl rfl (fun bx1 => ?_))))
 refine TO.l rfl (l_alloc inf26 rfl (fun bx2 => ?_))
 refine TO.nil (T.seq ?_)
 refine T.draws _ [(0, 0), (1, 0), (2, 0), (3, 0), (4, 0), (5, 0), (7, 0), (8, 0), (10, 0), (11, 0), (6, 1), (9, 1), (12, 1), (13, 0), (14, 2)] mixed (by kernel_rfl) (Sub.of (List.Sublist.refl _)) (fun _ _ _ h => h) ?_
 refine DO.q rfl (q_fa Try.underlying26 rfl inf3 rfl rfl) (DO.q rfl (q_lb 1 Try.underlying3 rfl rfl rfl rfl) (DO.q rfl (q_fa Try.underlying26 rfl inf3 rfl rfl) (DO.q rfl (q_lb 1 Try.underlying3 rfl rfl rfl rfl) (DO.q rfl (q_fa Try.underlying26 rfl inf22 rfl rfl) (DO.q rfl (q_lb 1 Try.underlying22 rfl rfl rfl rfl) (DO.q rfl (q_fa Try.underlying26 rfl inf23 rfl rfl) (DO.q rfl (q_lb 1 Try.underlying23 rfl rfl rfl rfl) (DO.q rfl (q_fa Try.underlying26 rfl inf24 rfl rfl) (DO.q rfl (q_lb 1 Try.underlying24 rfl rfl rfl rfl) ?_)))))))))
 have hk9 := fun (w1 : World) (hI : Inv w [oI bx2 26 [(.int .i64 0), (.int .i64 0), nS, nS, nS], oI bx1 26 (buC b sb sc eb ec tb tc)] w1) => copyInts w1 sb sc b.start (hI.sl h.st) (by have := hB.st; omega)
 refine DO.loud rfl rfl (l_call ent48 (CallT.pu hk9) rfl ?_)
 clear hk9
 rintro vr O' ⟨N, rfl, sb2, sc2, rfl, rfl⟩
 refine ⟨Sub.pick [1, 1] rfl, ?_⟩
 have hk12 := fun (w1 : World) (hI : Inv w [rowI sb2 sc2 3 1 (ints b.start), oI bx2 26 [(.int .i64 0), (.int .i64 0), nS, nS, nS], oI bx1 26 (buC b sb sc eb ec tb tc)] w1) => copyEdges w1 eb ec b.edges (hI.sl h.ed) hB.ed
 refine DO.loud rfl rfl (l_call ent49 (CallT.pu hk12) rfl ?_)
 clear hk12
 rintro vr O' ⟨N, rfl, eb2, ec2, rfl, rfl⟩
 refine ⟨Sub.pick [2, 2] rfl, ?_⟩
 have hk15 := fun (w1 : World) (hI : Inv w [rowI eb2 ec2 54 4 (edsC b.edges), rowI sb2 sc2 3 1 (ints b.start), oI bx2 26 [(.int .i64 0), (.int .i64 0), nS, nS, nS], oI bx1 26 (buC b sb sc eb ec tb tc)] w1) => copyRows w1 tb tc vs b.sets (hI.sl h.out) (hI.rows h.rows) (by have := hB.se; omega) (fun r hr => by have := hB.sr r hr; omega)
 refine DO.loud rfl rfl (l_call ent50 (CallT.pu hk15) rfl ?_)
 clear hk15
 rintro vr O' ⟨N, rfl, tb2, tc2, qs, rfl, rfl, hqs⟩
 refine ⟨Sub.appL _ (Sub.pick [2, 2] rfl), ?_⟩
 refine DO.sub (O' := ([rowI tb2 tc2 22 1 (vals qs), rowI eb2 ec2 54 4 (edsC b.edges), rowI sb2 sc2 3 1 (ints b.start), oI bx2 26 [(.int .i64 0), (.int .i64 0), nS, nS, nS], oI bx1 26 (buC b sb sc eb ec tb tc)] ++ (itms 3 qs))) (Sub.ca []) ?_
 refine DO.q rfl (q_build (cs := (buC b sb2 sc2 eb2 ec2 tb2 tc2)) plan26 inf26 (by kernel_rfl)) ?_
 refine DO.last rfl rfl (l_sb (v := (.agg (buC b sb2 sc2 eb2 ec2 tb2 tc2).toArray)) (vs := (buC b sb2 sc2 eb2 ec2 tb2 tc2)) 3 inf26 rfl rfl rfl rfl rfl rfl (by simp [putL]) ?_)
 refine DO.done ?_
 refine T.ret (Res.drop ?_)
 refine Res.cell1 (i := 3) Try.results15 Try.underlying26 rfl inf26 rfl rfl rfl ?_
 exact ⟨[rowI sb2 sc2 3 1 (ints b.start), rowI eb2 ec2 54 4 (edsC b.edges), rowI tb2 tc2 22 1 (vals qs)] ++ itms 3 qs, Sub.ca [oI bx2 26 (buC b sb2 sc2 eb2 ec2 tb2 tc2), oI bx1 26 (buC b sb sc eb ec tb tc)], sb2, eb2, tb2, sc2, ec2, tc2, qs, rfl, rfl, hqs⟩
theorem equalBuchi (w : World) (b : Bu) (sb eb tb : Option Addr) (sc ec tc : Nat) (vs : List Value) (h : BuAt w b sb eb tb vs) (hB : BuB b) (b2 : Bu) (sb2 eb2 tb2 : Option Addr) (sc2 ec2 tc2 : Nat) (vs2 : List Value) (h2 : BuAt w b2 sb2 eb2 tb2 vs2) :
  PureT Try.prog 25 [.agg (buC b sb sc eb ec tb tc).toArray, .agg (buC b2 sb2 sc2 eb2 ec2 tb2 tc2).toArray] w fun v N => v = .bool (decide (b = b2)) ∧ N = [] := by
 refine CallT.enter Try.func25 rfl Try.ntmps25 rfl ?_
 refine T.seq (T.rg (TO.l rfl (l_box (v := (.agg (buC b sb sc eb ec tb tc).toArray)) (cs := (buC b sb sc eb ec tb tc)) rfl rfl (fun bx1 => ?_))))
 refine TO.l rfl (l_box (v := (.agg (buC b2 sb2 sc2 eb2 ec2 tb2 tc2).toArray)) (cs := (buC b2 sb2 sc2 eb2 ec2 tb2 tc2)) rfl rfl (fun bx2 => ?_))
 refine TO.qa rfl (TO.nil (T.seq (T.rg (TO.q (q_fa Try.underlying26 rfl inf3 rfl rfl) (TO.q (q_lb 1 Try.underlying3 rfl rfl rfl rfl) (TO.q (q_fa Try.underlying26 rfl inf3 rfl rfl) (TO.q (q_lb 0 Try.underlying3 rfl rfl rfl rfl) (TO.q (q_eql rfl rfl) ?_))))))))
 by_cases hs10 : b.vars = b2.vars
 ·refine TO.q (QT.toB (q_move rfl) (decide_eq_true hs10)) ?_
  refine TO.gq rfl rfl (q_fa Try.underlying26 rfl inf3 rfl rfl) (TO.gq rfl rfl (q_lb 1 Try.underlying3 rfl rfl rfl rfl) (TO.gq rfl rfl (q_fa Try.underlying26 rfl inf3 rfl rfl) (TO.gq rfl rfl (q_lb 0 Try.underlying3 rfl rfl rfl rfl) (TO.gq rfl rfl (q_eql rfl rfl) (TO.q (q_pick1 rfl rfl) ?_)))))
  by_cases hs17 : b.states = b2.states
  ·refine TO.q (QT.toB (q_move rfl) (decide_eq_true hs17)) ?_
   refine TO.gq rfl rfl (q_fa Try.underlying26 rfl inf22 rfl rfl) (TO.gq rfl rfl (q_lb 1 Try.underlying22 rfl rfl rfl rfl) (TO.gq rfl rfl (q_fa Try.underlying26 rfl inf22 rfl rfl) (TO.gq rfl rfl (q_lb 0 Try.underlying22 rfl rfl rfl rfl) ?_)))
   by_cases e3 : b.start = b2.start
   ·have hk22 := fun (w1 : World) (hI : Inv w [oI bx2 26 (buC b2 sb2 sc2 eb2 ec2 tb2 tc2), oI bx1 26 (buC b sb sc eb ec tb tc)] w1) => equalInts w1 sb sb2 sc sc2 b.start b2.start (hI.sl h.st) (hI.sl h2.st) (by have := hB.st; omega)
    refine TO.gd rfl rfl rfl (l_call ent47 (CallT.pu hk22) rfl ?_)
    clear hk22
    rintro vr O' ⟨N, rfl, rfl, rfl⟩
    rw [decide_eq_true e3]
    refine TO.q (q_pick1 rfl rfl) (TO.qm rfl (TO.gq rfl rfl (q_fa Try.underlying26 rfl inf23 rfl rfl) (TO.gq rfl rfl (q_lb 1 Try.underlying23 rfl rfl rfl rfl) (TO.gq rfl rfl (q_fa Try.underlying26 rfl inf23 rfl rfl) (TO.gq rfl rfl (q_lb 0 Try.underlying23 rfl rfl rfl rfl) ?_)))))
    by_cases e4 : b.edges = b2.edges
    ·have hk29 := fun (w1 : World) (hI : Inv w [oI bx2 26 (buC b2 sb2 sc2 eb2 ec2 tb2 tc2), oI bx1 26 (buC b sb sc eb ec tb tc)] w1) => equalEdges w1 eb eb2 ec ec2 b.edges b2.edges (hI.sl h.ed) (hI.sl h2.ed) hB.ed
     refine TO.gd rfl rfl rfl (l_call ent66 (CallT.pu hk29) rfl ?_)
     clear hk29
     rintro vr O' ⟨N, rfl, rfl, rfl⟩
     rw [decide_eq_true e4]
     refine TO.q (q_pick1 rfl rfl) (TO.qm rfl (TO.gq rfl rfl (q_fa Try.underlying26 rfl inf24 rfl rfl) (TO.gq rfl rfl (q_lb 1 Try.underlying24 rfl rfl rfl rfl) (TO.gq rfl rfl (q_fa Try.underlying26 rfl inf24 rfl rfl) (TO.gq rfl rfl (q_lb 0 Try.underlying24 rfl rfl rfl rfl) ?_)))))
     by_cases e5 : b.sets = b2.sets
     ·have hk36 := fun (w1 : World) (hI : Inv w [oI bx2 26 (buC b2 sb2 sc2 eb2 ec2 tb2 tc2), oI bx1 26 (buC b sb sc eb ec tb tc)] w1) => equalRows w1 tb tb2 tc tc2 vs vs2 b.sets b2.sets (hI.sl h.out) (hI.rows h.rows) (hI.sl h2.out) (hI.rows h2.rows) (by have := hB.se; omega) (fun r hr => by have := hB.sr r hr; omega)
      refine TO.gd rfl rfl rfl (l_call ent67 (CallT.pu hk36) rfl ?_)
      clear hk36
      rintro vr O' ⟨N, rfl, rfl, rfl⟩
      rw [decide_eq_true e5]
      refine TO.q (q_pick1 rfl rfl) (TO.qa rfl (TO.nil (T.ret (Res.drop ?_))))
      refine Res.one (.bool true) Try.results25 rfl ?_
      refine ⟨[], Sub.of (List.nil_sublist _), congrArg Value.bool (decide_eq_true ?_).symm, rfl⟩
      cases b; cases b2; simp only at hs10 hs17 e3 e4 e5; rw [hs10, hs17, e3, e4, e5]
     have hk36 := fun (w1 : World) (hI : Inv w [oI bx2 26 (buC b2 sb2 sc2 eb2 ec2 tb2 tc2), oI bx1 26 (buC b sb sc eb ec tb tc)] w1) => equalRows w1 tb tb2 tc tc2 vs vs2 b.sets b2.sets (hI.sl h.out) (hI.rows h.rows) (hI.sl h2.out) (hI.rows h2.rows) (by have := hB.se; omega) (fun r hr => by have := hB.sr r hr; omega)
     refine TO.gd rfl rfl rfl (l_call ent67 (CallT.pu hk36) rfl ?_)
     clear hk36
     rintro vr O' ⟨N, rfl, rfl, rfl⟩
     rw [decide_eq_false e5]
     refine TO.q (q_pick1 rfl rfl) (TO.qa rfl (TO.nil (T.ret (Res.drop ?_))))
     refine Res.one (.bool false) Try.results25 rfl ?_
     refine ⟨[], Sub.of (List.nil_sublist _), congrArg Value.bool (decide_eq_false (fun e => ?_)).symm, rfl⟩
     subst e; first | exact hs10 rfl | exact hs17 rfl | exact e3 rfl | exact e4 rfl | exact e5 rfl
    have hk29 := fun (w1 : World) (hI : Inv w [oI bx2 26 (buC b2 sb2 sc2 eb2 ec2 tb2 tc2), oI bx1 26 (buC b sb sc eb ec tb tc)] w1) => equalEdges w1 eb eb2 ec ec2 b.edges b2.edges (hI.sl h.ed) (hI.sl h2.ed) hB.ed
    refine TO.gd rfl rfl rfl (l_call ent66 (CallT.pu hk29) rfl ?_)
    clear hk29
    rintro vr O' ⟨N, rfl, rfl, rfl⟩
    rw [decide_eq_false e4]
    refine TO.q (q_pick1 rfl rfl) (TO.qm rfl (TO.pd rfl rfl (TO.pd rfl rfl (TO.pd rfl rfl (TO.pd rfl rfl (TO.pd rfl rfl (TO.q (q_pick0 rfl rfl) (TO.qa rfl (TO.nil (T.ret (Res.drop ?_)))))))))))
    refine Res.one (.bool false) Try.results25 rfl ?_
    refine ⟨[], Sub.of (List.nil_sublist _), congrArg Value.bool (decide_eq_false (fun e => ?_)).symm, rfl⟩
    subst e; first | exact hs10 rfl | exact hs17 rfl | exact e3 rfl | exact e4 rfl | exact e5 rfl
   have hk22 := fun (w1 : World) (hI : Inv w [oI bx2 26 (buC b2 sb2 sc2 eb2 ec2 tb2 tc2), oI bx1 26 (buC b sb sc eb ec tb tc)] w1) => equalInts w1 sb sb2 sc sc2 b.start b2.start (hI.sl h.st) (hI.sl h2.st) (by have := hB.st; omega)
   refine TO.gd rfl rfl rfl (l_call ent47 (CallT.pu hk22) rfl ?_)
   clear hk22
   rintro vr O' ⟨N, rfl, rfl, rfl⟩
   rw [decide_eq_false e3]
   refine TO.q (q_pick1 rfl rfl) (TO.qm rfl (TO.pd rfl rfl (TO.pd rfl rfl (TO.pd rfl rfl (TO.pd rfl rfl (TO.pd rfl rfl (TO.q (q_pick0 rfl rfl) (TO.qm rfl (TO.pd rfl rfl ?_)))))))))
   refine TO.pd rfl rfl (TO.pd rfl rfl (TO.pd rfl rfl (TO.pd rfl rfl (TO.q (q_pick0 rfl rfl) (TO.qa rfl (TO.nil (T.ret (Res.drop ?_))))))))
   refine Res.one (.bool false) Try.results25 rfl ?_
   refine ⟨[], Sub.of (List.nil_sublist _), congrArg Value.bool (decide_eq_false (fun e => ?_)).symm, rfl⟩
   subst e; first | exact hs10 rfl | exact hs17 rfl | exact e3 rfl | exact e4 rfl | exact e5 rfl
  refine TO.q (QT.toB (q_move rfl) (decide_eq_false hs17)) (TO.pd rfl rfl (TO.pd rfl rfl (TO.pd rfl rfl (TO.pd rfl rfl (TO.pd rfl rfl (TO.q (q_pick0 rfl rfl) (TO.qm rfl (TO.pd rfl rfl ?_))))))))
  refine TO.pd rfl rfl (TO.pd rfl rfl (TO.pd rfl rfl (TO.pd rfl rfl (TO.q (q_pick0 rfl rfl) (TO.qm rfl (TO.pd rfl rfl (TO.pd rfl rfl (TO.pd rfl rfl ?_))))))))
  refine TO.pd rfl rfl (TO.pd rfl rfl (TO.q (q_pick0 rfl rfl) (TO.qa rfl (TO.nil (T.ret (Res.drop ?_))))))
  refine Res.one (.bool false) Try.results25 rfl ?_
  refine ⟨[], Sub.of (List.nil_sublist _), congrArg Value.bool (decide_eq_false (fun e => ?_)).symm, rfl⟩
  subst e; first | exact hs10 rfl | exact hs17 rfl | exact e3 rfl | exact e4 rfl | exact e5 rfl
 refine TO.q (QT.toB (q_move rfl) (decide_eq_false hs10)) (TO.pd rfl rfl (TO.pd rfl rfl (TO.pd rfl rfl (TO.pd rfl rfl (TO.pd rfl rfl (TO.q (q_pick0 rfl rfl) (TO.qm rfl (TO.pd rfl rfl ?_))))))))
 refine TO.pd rfl rfl (TO.pd rfl rfl (TO.pd rfl rfl (TO.pd rfl rfl (TO.q (q_pick0 rfl rfl) (TO.qm rfl (TO.pd rfl rfl (TO.pd rfl rfl (TO.pd rfl rfl ?_))))))))
 refine TO.pd rfl rfl (TO.pd rfl rfl (TO.q (q_pick0 rfl rfl) (TO.qm rfl (TO.pd rfl rfl (TO.pd rfl rfl (TO.pd rfl rfl (TO.pd rfl rfl (TO.pd rfl rfl ?_))))))))
 refine TO.q (q_pick0 rfl rfl) (TO.qa rfl (TO.nil (T.ret (Res.drop ?_))))
 refine Res.one (.bool false) Try.results25 rfl ?_
 refine ⟨[], Sub.of (List.nil_sublist _), congrArg Value.bool (decide_eq_false (fun e => ?_)).symm, rfl⟩
 subst e; first | exact hs10 rfl | exact hs17 rfl | exact e3 rfl | exact e4 rfl | exact e5 rfl
theorem statesF (w : World) (b : Option Addr) (c : Nat) (xs : List Int) (n : Int) (h : Sl w b (ints xs)) (hb : xs.length ≤ 1000000) :
  PureT Try.prog 64 [.slice b xs.length c, .int .i64 n] w fun v N => v = .bool (rises n (-1) xs) ∧ N = [] := by
 refine CallT.enter Try.func64 rfl Try.ntmps64 rfl ?_
 refine T.seq (T.rg (TO.qa rfl (TO.nil (T.seq (T.rg (TO.qa rfl (TO.nil (T.seq (T.seq (T.rg (TO.qm rfl (TO.q (q_len Try.underlying22 rfl) (TO.qm rfl (TO.nil (T.block ?_)))))))))))))))
 refine T.loop (fun (k : Nat) ρ O => ∃ (a : Int), O = [] ∧ k ≤ xs.length ∧ rises n a (xs.drop k) = rises n (-1) xs ∧ Heads [(0, (.slice b xs.length c)), (1, .int .i64 n), (5, .int .i64 a), (8, (.slice b xs.length c)), (9, .int .i64 (xs.length : Int)), (10, .int .i64 (k : Int))] ρ) (fun k => xs.length - k) 0 ?_ ?_
 ·exact ⟨-1, rfl, Nat.zero_le _, rfl, ⟨rfl, rfl, rfl, rfl, rfl, rfl, trivial⟩⟩
 rintro k ρ O ⟨a, rfl, hk, hr, hH⟩
 obtain ⟨ρ0, rfl⟩ := hH.elim
 clear hH
 refine T.seq (T.rg (TO.q (q_lss rfl rfl) (TO.nil (T.seq (T.condP rfl (fun hc => ?_) (fun hc => ?_))))))
 ·have hlt11 : k < xs.length := by omega
  refine T.skip (T.seq (T.block (T.seq (T.rg (TO.q (q_ix (i := k) Try.underlying22 inf3 rfl rfl (Sl.o h)) (TO.q (q_ld Try.underlying3 rfl rfl (Sl.o h) ints_get) (TO.qa rfl (TO.nil (T.seq (T.seq (T.rg (TO.qm rfl (TO.qm rfl (TO.q (q_leq rfl rfl) ?_))))))))))))))
  by_cases hs17 : xs[k] ≤ a
  ·refine TO.q (QT.toB (q_move rfl) (decide_eq_true hs17)) ?_
   refine TO.pd rfl rfl (TO.pd rfl rfl (TO.pd rfl rfl (TO.q (q_pick1 rfl rfl) (TO.nil ?_))))
   refine T.cond1 rfl ?_
   refine T.seq (T.rg (TO.qa rfl (TO.nil (T.ret ?_))))
   refine Res.one (.bool false) Try.results64 rfl ?_
   exact ⟨congrArg Value.bool (by rw [← hr, rises_no hlt11 (by omega)]), rfl⟩
  refine TO.q (QT.toB (q_move rfl) (decide_eq_false hs17)) (TO.gq rfl rfl (q_move rfl) (TO.gq rfl rfl (q_move rfl) (TO.gq rfl rfl (q_geq rfl rfl) (TO.q (q_pick0 rfl rfl) (TO.nil (T.condP rfl (fun hc => ?_) (fun hc => ?_)))))))
  ·refine T.seq ?_
   refine T.rg (TO.qa rfl (TO.nil (T.ret ?_)))
   refine Res.one (.bool false) Try.results64 rfl ?_
   exact ⟨congrArg Value.bool (by rw [← hr, rises_no hlt11 (by omega)]), rfl⟩
  refine T.skip (T.rg (TO.qm rfl (TO.qa rfl (TO.nil (T.rg (TO.q (q_addN (a := k) (b := 1) rfl rfl (by omega)) (TO.qm rfl (TO.nil ?_))))))))
  exact ⟨k + 1, by omega, xs[k], rfl, by omega, by rw [← hr, rises_yes hlt11 (by omega) (by omega)], ⟨rfl, rfl, rfl, rfl, rfl, rfl, trivial⟩⟩
 have hge11 : ¬ k < xs.length := by omega
 refine T.exit ?_
 refine T.seq (T.rg (TO.qa rfl (TO.nil (T.ret ?_))))
 refine Res.one (.bool true) Try.results64 rfl ?_
 exact ⟨congrArg Value.bool (by rw [← hr, rises_end (by omega)]), rfl⟩
theorem risesF (w : World) (b : Option Addr) (c : Nat) (xs : List Int) (n : Int) (h : Sl w b (ints xs)) (hb : xs.length ≤ 1000000) :
  PureT Try.prog 65 [.slice b xs.length c, .int .i64 n] w fun v N => v = .bool (rises n (-1) xs) ∧ N = [] := by
 refine CallT.enter Try.func65 rfl Try.ntmps65 rfl ?_
 refine T.seq (T.rg (TO.qa rfl (TO.nil (T.seq (T.seq (T.rg (TO.qa rfl (TO.nil (T.block ?_)))))))))
 refine T.loop (fun (k : Nat) ρ O => ∃ (a : Int), O = [] ∧ k ≤ xs.length ∧ rises n a (xs.drop k) = rises n (-1) xs ∧ (k = 0 → a = -1) ∧ (0 < k → 0 ≤ a ∧ xs[k - 1]? = some a) ∧ Heads [(0, (.slice b xs.length c)), (1, .int .i64 n), (5, .int .i64 (k : Int))] ρ) (fun k => xs.length - k) 0 ?_ ?_
 ·exact ⟨-1, rfl, Nat.zero_le _, rfl, fun _ => rfl, fun h => absurd h (by omega), ⟨rfl, rfl, rfl, trivial⟩⟩
 rintro k ρ O ⟨a, rfl, hk, hr, h0, h1, hH⟩
 obtain ⟨ρ0, rfl⟩ := hH.elim
 clear hH
 refine T.seq (T.seq (T.rg (TO.qm rfl (TO.qm rfl (TO.q (q_len Try.underlying22 rfl) (TO.q (q_lss rfl rfl) (TO.nil (T.condP rfl (fun hc => ?_) (fun hc => ?_)))))))))
 ·have hlt9 : k < xs.length := by omega
  refine T.skip (T.seq (T.block (T.seq ?_)))
  refine T.draws _ [(0, 0), (1, 0), (2, 0), (3, 0), (4, 0), (5, 0), (6, 0), (7, 0), (8, 0), (9, 0), (10, 0), (11, 0), (12, 0), (13, 0), (14, 0), (15, 0), (16, 0), (17, 0), (18, 0), (19, 0), (20, 0), (21, 0), (22, 0), (23, 0), (24, 0), (25, 0), (26, 0), (27, 0), (28, 0)] mixed (by kernel_rfl) (Sub.of (List.Sublist.refl _)) (fun _ _ _ h => h) ?_
  refine DO.q rfl (q_move rfl) (DO.q rfl (q_move rfl) (DO.q rfl (q_ix (i := k) Try.underlying22 inf3 rfl rfl (Sl.o h)) (DO.q rfl (q_ld Try.underlying3 rfl rfl (Sl.o h) ints_get) (DO.q rfl (q_lss rfl rfl) ?_))))
  by_cases hs17 : xs[k] < 0
  ·refine DO.q rfl (QT.toB (q_move rfl) (decide_eq_true hs17)) ?_
   refine DO.passed rfl rfl rfl (DO.passed rfl rfl rfl (DO.passed rfl rfl rfl (DO.passed rfl rfl rfl (DO.passed rfl rfl rfl (DO.passed rfl rfl rfl (DO.q rfl (q_pick1 rfl rfl) (DO.q rfl (q_move rfl) (DO.passed rfl rfl rfl ?_))))))))
   refine DO.passed rfl rfl rfl (DO.passed rfl rfl rfl (DO.passed rfl rfl rfl (DO.passed rfl rfl rfl (DO.passed rfl rfl rfl (DO.passed rfl rfl rfl (DO.passed rfl rfl rfl (DO.passed rfl rfl rfl ?_)))))))
   refine DO.passed rfl rfl rfl (DO.passed rfl rfl rfl (DO.passed rfl rfl rfl (DO.passed rfl rfl rfl (DO.passed rfl rfl rfl (DO.q rfl (q_pick1 rfl rfl) ?_)))))
   refine DO.done ?_
   refine T.cond1 rfl ?_
   refine T.seq (T.rg (TO.qa rfl (TO.nil (T.ret ?_))))
   refine Res.one (.bool false) Try.results65 rfl ?_
   have hno : xs[k] ≤ a ∨ n ≤ xs[k] := by
    by_cases e : k = 0
    ·have := h0 e; omega
    ·have h2 := (h1 (by omega)).2
     rw [List.getElem?_eq_getElem (by omega)] at h2
     have h3 := Option.some.inj h2
     have := (h1 (by omega)).1; omega
   exact ⟨congrArg Value.bool (by rw [← hr, rises_no hlt9 hno]), rfl⟩
  refine DO.q rfl (QT.toB (q_move rfl) (decide_eq_false hs17)) ?_
  refine DO.guarded rfl rfl rfl (q_move rfl) ?_
  refine DO.guarded rfl rfl rfl (q_move rfl) ?_
  refine DO.guarded rfl rfl rfl (q_ix (i := k) Try.underlying22 inf3 rfl rfl (Sl.o h)) ?_
  refine DO.guarded rfl rfl rfl (q_ld Try.underlying3 rfl rfl (Sl.o h) ints_get) ?_
  refine DO.guarded rfl rfl rfl (q_move rfl) ?_
  refine DO.guarded rfl rfl rfl (q_geq rfl rfl) ?_
  refine DO.q rfl (q_pick0 rfl rfl) ?_
  by_cases hs25 : xs[k] ≥ n
  ·refine DO.q rfl (QT.toB (q_move rfl) (decide_eq_true hs25)) ?_
   refine DO.passed rfl rfl rfl (DO.passed rfl rfl rfl (DO.passed rfl rfl rfl (DO.passed rfl rfl rfl (DO.passed rfl rfl rfl (DO.passed rfl rfl rfl (DO.passed rfl rfl rfl (DO.passed rfl rfl rfl ?_)))))))
   refine DO.passed rfl rfl rfl (DO.passed rfl rfl rfl (DO.passed rfl rfl rfl (DO.passed rfl rfl rfl (DO.passed rfl rfl rfl (DO.passed rfl rfl rfl (DO.q rfl (q_pick1 rfl rfl) ?_))))))
   refine DO.done ?_
   refine T.cond1 rfl ?_
   refine T.seq (T.rg (TO.qa rfl (TO.nil (T.ret ?_))))
   refine Res.one (.bool false) Try.results65 rfl ?_
   have hno : xs[k] ≤ a ∨ n ≤ xs[k] := by
    by_cases e : k = 0
    ·have := h0 e; omega
    ·have h2 := (h1 (by omega)).2
     rw [List.getElem?_eq_getElem (by omega)] at h2
     have h3 := Option.some.inj h2
     have := (h1 (by omega)).1; omega
   exact ⟨congrArg Value.bool (by rw [← hr, rises_no hlt9 hno]), rfl⟩
  refine DO.q rfl (QT.toB (q_move rfl) (decide_eq_false hs25)) ?_
  refine DO.guarded rfl rfl rfl (q_move rfl) ?_
  refine DO.guarded rfl rfl rfl (q_gtr rfl rfl) ?_
  by_cases hs28 : (k : Int) > 0
  ·refine DO.guarded rfl rfl rfl (QT.toB (q_move rfl) (decide_eq_true hs28)) ?_
   refine DO.guarded rfl rfl rfl (q_move rfl) ?_
   refine DO.guarded rfl rfl rfl (q_move rfl) ?_
   refine DO.guarded rfl rfl rfl (q_ix (i := k) Try.underlying22 inf3 rfl rfl (Sl.o h)) ?_
   refine DO.guarded rfl rfl rfl (q_ld Try.underlying3 rfl rfl (Sl.o h) ints_get) ?_
   refine DO.guarded rfl rfl rfl (q_move rfl) ?_
   refine DO.guarded rfl rfl rfl (q_move rfl) ?_
   refine DO.guarded rfl rfl rfl (q_subN (a := k) (b := 1) rfl rfl (by omega) (by omega)) ?_
   refine DO.guarded rfl rfl rfl (q_ix (i := (k - 1)) Try.underlying22 inf3 rfl rfl (Sl.o h)) ?_
   refine DO.guarded rfl rfl rfl (q_ld Try.underlying3 rfl rfl (Sl.o h) ints_get) ?_
   refine DO.guarded rfl rfl rfl (q_leq rfl rfl) ?_
   refine DO.guarded rfl rfl rfl (q_pick1 rfl rfl) ?_
   refine DO.q rfl (q_pick0 rfl rfl) ?_
   refine DO.done ?_
   refine T.condP rfl (fun hc => ?_) (fun hc => ?_)
   ·refine T.seq ?_
    refine T.rg (TO.qa rfl (TO.nil (T.ret ?_)))
    refine Res.one (.bool false) Try.results65 rfl ?_
    have hno : xs[k] ≤ a ∨ n ≤ xs[k] := by
     by_cases e : k = 0
     ·have := h0 e; omega
     ·have h2 := (h1 (by omega)).2
      rw [List.getElem?_eq_getElem (by omega)] at h2
      have h3 := Option.some.inj h2
      have := (h1 (by omega)).1; omega
    exact ⟨congrArg Value.bool (by rw [← hr, rises_no hlt9 hno]), rfl⟩
   refine T.skip (T.rg (TO.qm rfl (TO.q (q_addN (a := k) (b := 1) rfl rfl (by omega)) (TO.qa rfl (TO.nil ?_)))))
   have hxk : xs[k] < n := by omega
   have hak : a < xs[k] := by
    by_cases e : k = 0
    ·have := h0 e; omega
    ·have h2 := (h1 (by omega)).2
     rw [List.getElem?_eq_getElem (by omega)] at h2
     have h3 := Option.some.inj h2; omega
   exact ⟨k + 1, by omega, xs[k], rfl, by omega, by rw [← hr, rises_yes hlt9 hak hxk], fun h => absurd h (by omega), fun _ => ⟨by omega, by rw [Nat.add_sub_cancel, List.getElem?_eq_getElem hlt9]⟩, ⟨rfl, rfl, rfl, trivial⟩⟩
  refine DO.guarded rfl rfl rfl (QT.toB (q_move rfl) (decide_eq_false hs28)) ?_
  refine DO.passed rfl rfl rfl (DO.passed rfl rfl rfl (DO.passed rfl rfl rfl (DO.passed rfl rfl rfl (DO.passed rfl rfl rfl (DO.passed rfl rfl rfl (DO.passed rfl rfl rfl (DO.passed rfl rfl rfl ?_)))))))
  refine DO.passed rfl rfl rfl (DO.passed rfl rfl rfl ?_)
  refine DO.guarded rfl rfl rfl (q_pick0 rfl rfl) ?_
  refine DO.q rfl (q_pick0 rfl rfl) ?_
  refine DO.done ?_
  refine T.cond0 rfl (T.skip (T.rg (TO.qm rfl (TO.q (q_addN (a := k) (b := 1) rfl rfl (by omega)) (TO.qa rfl (TO.nil ?_))))))
  have hxk : xs[k] < n := by omega
  have hak : a < xs[k] := by
   by_cases e : k = 0
   ·have := h0 e; omega
   ·have h2 := (h1 (by omega)).2
    rw [List.getElem?_eq_getElem (by omega)] at h2
    have h3 := Option.some.inj h2; omega
  exact ⟨k + 1, by omega, xs[k], rfl, by omega, by rw [← hr, rises_yes hlt9 hak hxk], fun h => absurd h (by omega), fun _ => ⟨by omega, by rw [Nat.add_sub_cancel, List.getElem?_eq_getElem hlt9]⟩, ⟨rfl, rfl, rfl, trivial⟩⟩
 have hge9 : ¬ k < xs.length := by omega
 refine T.exit ?_
 refine T.seq (T.rg (TO.qa rfl (TO.nil (T.ret ?_))))
 refine Res.one (.bool true) Try.results65 rfl ?_
 exact ⟨congrArg Value.bool (by rw [← hr, rises_end (by omega)]), rfl⟩
end Go.Proofs.Ytnamoapbienooaa

set_option maxRecDepth 20000
set_option maxHeartbeats 4000000
namespace Go.Proofs.Ytnamoapbienooaa
open Go.Lx Go.RowKit
set_option linter.unusedVariables false
set_option linter.unusedSimpArgs false
theorem checkF (w : World) (b : Bu) (sb eb tb : Option Addr) (sc ec tc : Nat) (vs : List Value) (h : BuAt w b sb eb tb vs) (hB : BuB b) :
  PureT Try.prog 21 [.agg (buC b sb sc eb ec tb tc).toArray] w fun v N => v = .int .i64 (checkB b : Int) ∧ N = [] := by
 refine CallT.enter Try.func21 rfl Try.ntmps21 rfl ?_
 have hst := hB.st; have hed := hB.ed; have hse := hB.se
 have hR : RowsR w (.slice sb b.start.length sc :: vs) (b.start :: b.sets) := h.rows.cons h.st
 have hvl := h.rows.1
 refine T.seq (T.rg (TO.l rfl (l_box (v := (.agg (buC b sb sc eb ec tb tc).toArray)) (cs := (buC b sb sc eb ec tb tc)) rfl rfl (fun bx1 => ?_))))
 refine TO.qa rfl (TO.nil (T.seq (T.block (T.seq (T.rg (TO.q (q_fa Try.underlying26 rfl inf3 rfl rfl) (TO.q (q_lb 0 Try.underlying3 rfl rfl rfl rfl) (TO.q (q_lss rfl rfl) ?_))))))))
 by_cases hs11 : b.vars < 0
 ·refine TO.q (QT.toB (q_move rfl) (decide_eq_true hs11)) ?_
  refine TO.pd rfl rfl (TO.pd rfl rfl (TO.pd rfl rfl (TO.q (q_pick1 rfl rfl) (TO.qa rfl (TO.nil ?_)))))
  refine T.cond1 rfl ?_
  refine T.seq (T.rg (TO.qa rfl (TO.nil (T.ret (Res.drop ?_)))))
  refine Res.one (.int .i64 7) Try.results21 rfl ?_
  refine ⟨[], Sub.of (List.nil_sublist _), congrArg (fun z : Nat => Value.int .i64 (z : Int)) (Eq.symm (a := checkB b) (b := 7) ?_), rfl⟩
  exact checkB_7 (by omega)
 refine TO.q (QT.toB (q_move rfl) (decide_eq_false hs11)) (TO.gq rfl rfl (q_fa Try.underlying26 rfl inf3 rfl rfl) (TO.gq rfl rfl (q_lb 0 Try.underlying3 rfl rfl rfl rfl) (TO.gq rfl rfl (q_gtr rfl rfl) (TO.q (q_pick0 rfl rfl) (TO.qa rfl (TO.nil (T.condP rfl (fun hc => ?_) (fun hc => ?_))))))))
 ·refine T.seq ?_
  refine T.rg (TO.qa rfl (TO.nil (T.ret (Res.drop ?_))))
  refine Res.one (.int .i64 7) Try.results21 rfl ?_
  refine ⟨[], Sub.of (List.nil_sublist _), congrArg (fun z : Nat => Value.int .i64 (z : Int)) (Eq.symm (a := checkB b) (b := 7) ?_), rfl⟩
  exact checkB_7 (by omega)
 refine T.seq (T.rg (TO.q (q_fa Try.underlying26 rfl inf3 rfl rfl) (TO.q (q_lb 0 Try.underlying3 rfl rfl rfl rfl) (TO.q (q_lss rfl rfl) (TO.qa rfl (TO.nil (T.condP rfl (fun hc => ?_) (fun hc => ?_))))))))
 ·refine T.seq ?_
  refine T.rg (TO.qa rfl (TO.nil (T.ret (Res.drop ?_))))
  refine Res.one (.int .i64 1) Try.results21 rfl ?_
  refine ⟨[], Sub.of (List.nil_sublist _), congrArg (fun z : Nat => Value.int .i64 (z : Int)) (Eq.symm (a := checkB b) (b := 1) ?_), rfl⟩
  exact checkB_1 (by omega) (by omega)
 refine T.seq (T.rg (TO.q (q_fa Try.underlying26 rfl inf3 rfl rfl) (TO.q (q_lb 0 Try.underlying3 rfl rfl rfl rfl) (TO.q (q_gtr rfl rfl) (TO.qa rfl (TO.nil (T.condP rfl (fun hc => ?_) (fun hc => ?_))))))))
 ·refine T.seq ?_
  refine T.rg (TO.qa rfl (TO.nil (T.ret (Res.drop ?_))))
  refine Res.one (.int .i64 10) Try.results21 rfl ?_
  refine ⟨[], Sub.of (List.nil_sublist _), congrArg (fun z : Nat => Value.int .i64 (z : Int)) (Eq.symm (a := checkB b) (b := 10) ?_), rfl⟩
  exact checkB_10 (by omega) (by omega) (by omega)
 refine T.seq (T.rg (TO.q (q_fa Try.underlying26 rfl inf24 rfl rfl) (TO.q (q_lb 0 Try.underlying24 rfl rfl rfl rfl) (TO.q (q_len Try.underlying24 rfl) (TO.q (q_gtr rfl rfl) (TO.qa rfl (TO.nil (T.condP rfl (fun hc => ?_) (fun hc => ?_)))))))))
 ·have hlt24 : b.sets.length > 8 := by omega
  refine T.seq (T.rg (TO.qa rfl (TO.nil (T.ret (Res.drop ?_)))))
  refine Res.one (.int .i64 4) Try.results21 rfl ?_
  refine ⟨[], Sub.of (List.nil_sublist _), congrArg (fun z : Nat => Value.int .i64 (z : Int)) (Eq.symm (a := checkB b) (b := 4) ?_), rfl⟩
  exact checkB_4 (by omega) (by omega) (by omega) (by omega)
 have hge24 : ¬ b.sets.length > 8 := by omega
 refine T.skip (T.seq (T.seq (T.rg (TO.q (q_fa Try.underlying26 rfl inf22 rfl rfl) (TO.q (q_lb 0 Try.underlying22 rfl rfl rfl rfl) (TO.l rfl (l_build1 (v := (.slice sb b.start.length sc)) Try.underlying24 inf22 rfl rfl rfl (fun bx2 => ?_))))))))
 refine TO.q (q_fa Try.underlying26 rfl inf24 rfl rfl) (TO.q (q_lb 1 Try.underlying24 rfl rfl rfl rfl) (TO.l rfl (l_append 0 Try.underlying24 Try.underlying24 inf22 rfl rfl rfl rfl (by simp) (by decide) (Src.sl h.out (by rw [hvl]; simp)) (RowsR.one h.rows) (by omega) (by decide) (by decide) (fun bx3 c4 => ?_))))
 refine TO.q (q_len Try.underlying24 rfl) (TO.qm rfl (TO.nil (T.block ?_)))
 have hR1 : ∀ r ∈ b.start :: b.sets, r.length ≤ 1000000 := fun r hr => by
  rcases List.mem_cons.1 hr with rfl | hr
  ·exact hst
  ·exact hB.sr r hr
 refine T.loop (fun (k : Nat) ρ O => O = [rowI bx3 c4 22 1 ([(.slice sb b.start.length sc)] ++ vs), oI bx1 26 (buC b sb sc eb ec tb tc)] ∧ k ≤ 1 + b.sets.length ∧ ((b.start :: b.sets).take k).all (rises b.states (-1)) = true ∧ Heads [(0, (.agg (buC b sb sc eb ec tb tc).toArray)), (1, (.pointer (aD bx1))), (7, .bool (decide (b.vars > 6))), (16, .bool (decide (b.states < 0))), (20, .bool (decide (b.states > 4096))), (24, .bool (decide ((b.sets.length : Int) > 8))), (34, (.slice bx3 (1 + b.sets.length) c4)), (35, .int .i64 (1 + b.sets.length : Int)), (36, .int .i64 (k : Int))] ρ) (fun k => (1 + b.sets.length) - k) 0 ?_ ?_
 ·exact ⟨rfl, Nat.zero_le _, rfl, ⟨rfl, rfl, rfl, rfl, rfl, rfl, rfl, rfl, rfl, trivial⟩⟩
 rintro k ρ O ⟨rfl, hk, hall, hH⟩
 obtain ⟨ρ0, rfl⟩ := hH.elim
 clear hH
 refine T.seq (T.rg (TO.q (q_lss rfl rfl) (TO.nil (T.seq (T.condP rfl (fun hc => ?_) (fun hc => ?_))))))
 ·have hlt37 : k < 1 + b.sets.length := by omega
  have hkl : k < (b.start :: b.sets).length := by simp; omega
  obtain ⟨rb, rc, g1, s1⟩ := hR.get hkl
  refine T.skip (T.seq (T.block (T.seq (T.rg (TO.q (q_ix (i := k) Try.underlying24 inf22 rfl rfl (rowO (mG 0 rfl)) (by first | assumption | omega | (simp; omega) | simp_all) (by show k < (Value.slice sb b.start.length sc :: vs).length; rw [hR.1]; exact hkl)) (TO.q (q_ld Try.underlying22 rfl rfl (rowO (mG 0 rfl)) g1) (TO.qa rfl (TO.nil (T.seq (T.rg (TO.qm rfl (TO.q (q_fa Try.underlying26 rfl inf3 rfl rfl) (TO.q (q_lb 1 Try.underlying3 rfl rfl rfl rfl) ?_)))))))))))))
  have hk43 := fun (w1 : World) (hI : Inv w [rowI bx3 c4 22 1 ([(.slice sb b.start.length sc)] ++ vs), oI bx1 26 (buC b sb sc eb ec tb tc)] w1) => statesF w1 rb rc (b.start :: b.sets)[k] b.states (hI.sl s1) (hR1 _ (List.getElem_mem hkl))
  refine TO.l rfl (l_call ent64 (CallT.pu hk43) rfl ?_)
  clear hk43
  rintro vr O' ⟨N, rfl, rfl, rfl⟩
  refine TO.q (q_not rfl) (TO.nil (T.cond rfl (fun hc => ?_) (fun hc => ?_)))
  ·refine T.seq ?_
   refine T.rg (TO.qa rfl (TO.nil (T.ret (Res.drop ?_))))
   refine Res.one (.int .i64 8) Try.results21 rfl ?_
   refine ⟨[], Sub.of (List.nil_sublist _), congrArg (fun z : Nat => Value.int .i64 (z : Int)) (Eq.symm (a := checkB b) (b := 8) ?_), rfl⟩
   exact checkB_8 (by omega) (by omega) (by omega) (by omega) (all_no hkl (by simpa using hc))
  refine T.skip (T.rg (TO.q (q_addN (a := k) (b := 1) rfl rfl (by omega)) (TO.qm rfl (TO.nil ?_))))
  exact ⟨k + 1, by omega, rfl, by omega, all_snoc hkl hall (by simpa using hc), ⟨rfl, rfl, rfl, rfl, rfl, rfl, rfl, rfl, rfl, trivial⟩⟩
 have hge37 : ¬ k < 1 + b.sets.length := by omega
 refine T.exit ?_
 refine T.seq (T.seq (T.rg (TO.q (q_fa Try.underlying26 rfl inf23 rfl rfl) (TO.q (q_lb 1 Try.underlying23 rfl rfl rfl rfl) (TO.q (q_len Try.underlying23 rfl) (TO.qm rfl (TO.nil (T.block ?_))))))))
 refine T.sub (O' := [oI bx1 26 (buC b sb sc eb ec tb tc)]) (Sub.pick [1] rfl) ?_
 refine T.loopS (fun (j : Nat) ρ O => O = [oI bx1 26 (buC b sb sc eb ec tb tc)] ∧ j ≤ b.edges.length ∧ edgesE b.states b.vars.toNat (b.edges.drop j) = checkB b ∧ Heads [(0, (.agg (buC b sb sc eb ec tb tc).toArray)), (1, (.pointer (aD bx1))), (7, .bool (decide (b.vars > 6))), (16, .bool (decide (b.states < 0))), (20, .bool (decide (b.states > 4096))), (24, .bool (decide ((b.sets.length : Int) > 8))), (47, (.slice eb b.edges.length ec)), (48, .int .i64 (b.edges.length : Int)), (49, .int .i64 (j : Int))] ρ) (fun j => b.edges.length - j) 0 ?_ ?_
 ·exact ⟨rfl, Nat.zero_le _, (checkB_e (by omega) (by omega) (by omega) (by omega) (all_done (by simp; omega) hall)).symm, ⟨rfl, rfl, rfl, rfl, rfl, rfl, rfl, rfl, rfl, trivial⟩⟩
 rintro j ρ O ⟨rfl, hj, he, hH⟩
 obtain ⟨ρ0, rfl⟩ := hH.elim
 clear hH
 refine T.seq (T.rg (TO.q (q_lss rfl rfl) (TO.nil (T.seq (T.condP rfl (fun hc => ?_) (fun hc => ?_))))))
 ·have hlt50 : j < b.edges.length := by omega
  have hpn := hB.pn _ (List.getElem_mem hlt50)
  refine T.skip (T.seq (T.block (T.seq (T.rg (TO.q (q_ixK (i := j) Try.underlying23 inf54 rfl rfl (Sl.o h.ed) (by first | assumption | omega | (simp; omega) | simp_all) (by first | (rw [eds_len]; omega) | (simp [eds_len]; omega) | (simp_all [eds_len]; omega))) (TO.q (q_ldK (vs := [.int .i64 b.edges[j].fr, .int .i64 b.edges[j].to, .int .u8 ((b.edges[j].pos : Nat) : Int), .int .u8 ((b.edges[j].neg : Nat) : Int)]) Try.underlying54 rfl inf54 rfl rfl (Nat.succ_pos _) (Sl.o h.ed) (eds_get (by first | assumption | omega | (simp; omega) | simp_all))) (TO.l rfl (l_alloc inf54 rfl (fun bx5 => ?_)))))))))
  refine TO.l rfl (l_sb (v := (.agg #[.int .i64 b.edges[j].fr, .int .i64 b.edges[j].to, .int .u8 ((b.edges[j].pos : Nat) : Int), .int .u8 ((b.edges[j].neg : Nat) : Int)])) (vs := [.int .i64 b.edges[j].fr, .int .i64 b.edges[j].to, .int .u8 ((b.edges[j].pos : Nat) : Int), .int .u8 ((b.edges[j].neg : Nat) : Int)]) 0 inf54 rfl rfl rfl rfl rfl rfl (by simp [putL]) ?_)
  refine TO.nil (T.block (T.seq (T.rg (TO.q (q_fa Try.underlying54 rfl inf3 rfl rfl) (TO.q (q_lb 0 Try.underlying3 rfl rfl rfl rfl) (TO.q (q_lss rfl rfl) ?_))))))
  by_cases hs57 : b.edges[j].fr < 0
  ·refine TO.q (QT.toB (q_move rfl) (decide_eq_true hs57)) ?_
   refine TO.pd rfl rfl (TO.pd rfl rfl (TO.pd rfl rfl (TO.pd rfl rfl (TO.pd rfl rfl (TO.q (q_pick1 rfl rfl) (TO.qm rfl (TO.pd rfl rfl (TO.pd rfl rfl ?_))))))))
   refine TO.pd rfl rfl (TO.q (q_pick1 rfl rfl) (TO.qm rfl (TO.pd rfl rfl (TO.pd rfl rfl (TO.pd rfl rfl (TO.pd rfl rfl (TO.pd rfl rfl (TO.q (q_pick1 rfl rfl) (TO.qa rfl ?_)))))))))
   refine TO.nil ?_
   refine T.cond1 rfl ?_
   refine T.seq (T.rg (TO.qa rfl (TO.nil (T.ret (Res.drop ?_)))))
   refine Res.one (.int .i64 8) Try.results21 rfl ?_
   refine ⟨[], Sub.of (List.nil_sublist _), congrArg (fun z : Nat => Value.int .i64 (z : Int)) (Eq.symm (a := checkB b) (b := 8) ?_), rfl⟩
   rw [← he]; exact edges_8 hlt50 (by omega)
  refine TO.q (QT.toB (q_move rfl) (decide_eq_false hs57)) (TO.gq rfl rfl (q_fa Try.underlying54 rfl inf3 rfl rfl) (TO.gq rfl rfl (q_lb 0 Try.underlying3 rfl rfl rfl rfl) (TO.gq rfl rfl (q_fa Try.underlying26 rfl inf3 rfl rfl) (TO.gq rfl rfl (q_lb 1 Try.underlying3 rfl rfl rfl rfl) (TO.gq rfl rfl (q_geq rfl rfl) (TO.q (q_pick0 rfl rfl) ?_))))))
  by_cases hs64 : b.edges[j].fr ≥ b.states
  ·refine TO.q (QT.toB (q_move rfl) (decide_eq_true hs64)) ?_
   refine TO.pd rfl rfl (TO.pd rfl rfl (TO.pd rfl rfl (TO.q (q_pick1 rfl rfl) (TO.qm rfl (TO.pd rfl rfl (TO.pd rfl rfl (TO.pd rfl rfl (TO.pd rfl rfl ?_))))))))
   refine TO.pd rfl rfl (TO.q (q_pick1 rfl rfl) (TO.qa rfl (TO.nil ?_)))
   refine T.cond1 rfl ?_
   refine T.seq (T.rg (TO.qa rfl (TO.nil (T.ret (Res.drop ?_)))))
   refine Res.one (.int .i64 8) Try.results21 rfl ?_
   refine ⟨[], Sub.of (List.nil_sublist _), congrArg (fun z : Nat => Value.int .i64 (z : Int)) (Eq.symm (a := checkB b) (b := 8) ?_), rfl⟩
   rw [← he]; exact edges_8 hlt50 (by omega)
  refine TO.q (QT.toB (q_move rfl) (decide_eq_false hs64)) (TO.gq rfl rfl (q_fa Try.underlying54 rfl inf3 rfl rfl) (TO.gq rfl rfl (q_lb 0 Try.underlying3 rfl rfl rfl rfl) (TO.gq rfl rfl (q_lss rfl rfl) (TO.q (q_pick0 rfl rfl) ?_))))
  by_cases hs69 : b.edges[j].to < 0
  ·refine TO.q (QT.toB (q_move rfl) (decide_eq_true hs69)) ?_
   refine TO.pd rfl rfl (TO.pd rfl rfl (TO.pd rfl rfl (TO.pd rfl rfl (TO.pd rfl rfl (TO.q (q_pick1 rfl rfl) (TO.qa rfl (TO.nil ?_)))))))
   refine T.cond1 rfl ?_
   refine T.seq (T.rg (TO.qa rfl (TO.nil (T.ret (Res.drop ?_)))))
   refine Res.one (.int .i64 8) Try.results21 rfl ?_
   refine ⟨[], Sub.of (List.nil_sublist _), congrArg (fun z : Nat => Value.int .i64 (z : Int)) (Eq.symm (a := checkB b) (b := 8) ?_), rfl⟩
   rw [← he]; exact edges_8 hlt50 (by omega)
  refine TO.q (QT.toB (q_move rfl) (decide_eq_false hs69)) (TO.gq rfl rfl (q_fa Try.underlying54 rfl inf3 rfl rfl) (TO.gq rfl rfl (q_lb 0 Try.underlying3 rfl rfl rfl rfl) (TO.gq rfl rfl (q_fa Try.underlying26 rfl inf3 rfl rfl) (TO.gq rfl rfl (q_lb 1 Try.underlying3 rfl rfl rfl rfl) (TO.gq rfl rfl (q_geq rfl rfl) (TO.q (q_pick0 rfl rfl) (TO.qa rfl (TO.nil (T.condP rfl (fun hc => ?_) (fun hc => ?_))))))))))
  ·refine T.seq ?_
   refine T.rg (TO.qa rfl (TO.nil (T.ret (Res.drop ?_))))
   refine Res.one (.int .i64 8) Try.results21 rfl ?_
   refine ⟨[], Sub.of (List.nil_sublist _), congrArg (fun z : Nat => Value.int .i64 (z : Int)) (Eq.symm (a := checkB b) (b := 8) ?_), rfl⟩
   rw [← he]; exact edges_8 hlt50 (by omega)
  refine T.seq ?_
  refine T.draws _ [(0, 0), (1, 0), (2, 0), (3, 0), (4, 0), (5, 0), (6, 0), (7, 0), (8, 0), (9, 0), (10, 0), (11, 0), (12, 0), (13, 0), (14, 0), (15, 0), (16, 0), (17, 0), (18, 0)] mixed (by kernel_rfl) (Sub.of (List.Sublist.refl _)) (fun _ _ _ h => h) ?_
  refine DO.q rfl (q_fa Try.underlying54 rfl inf5 rfl rfl) (DO.q rfl (q_lb 0 Try.underlying5 rfl rfl rfl rfl) (DO.q rfl (q_fa Try.underlying54 rfl inf5 rfl rfl) (DO.q rfl (q_lb 0 Try.underlying5 rfl rfl rfl rfl) (DO.q rfl (q_or (a := b.edges[j].pos) (b := b.edges[j].neg) .u8 rfl rfl (by show _ < 256; omega) (by show _ < 256; omega)) (DO.q rfl (q_conv_id Try.underlying5 Try.underlying3 rfl (wrap64_id ⟨by omega, by have := Nat.or_lt_two_pow (n := 8) hpn.1 hpn.2; omega⟩)) (DO.q rfl (q_fa Try.underlying26 rfl inf3 rfl rfl) (DO.q rfl (q_lb 1 Try.underlying3 rfl rfl rfl rfl) (DO.q rfl (q_shl1 (v := b.vars.toNat) rfl (by show Value.int _ b.vars = _; rw [Int.toNat_of_nonneg (by omega)]) (by omega)) (DO.q rfl (q_geq rfl rfl) ?_)))))))))
  by_cases hs87 : ((b.edges[j].pos ||| b.edges[j].neg : Nat) : Int) ≥ ((2 ^ b.vars.toNat : Nat) : Int)
  ·refine DO.q rfl (QT.toB (q_move rfl) (decide_eq_true hs87)) ?_
   refine DO.passed rfl rfl rfl (DO.passed rfl rfl rfl (DO.passed rfl rfl rfl (DO.passed rfl rfl rfl (DO.passed rfl rfl rfl (DO.passed rfl rfl rfl (DO.q rfl (q_pick1 rfl rfl) (DO.q rfl (q_assign rfl) ?_)))))))
   refine DO.done ?_
   refine T.cond1 rfl ?_
   refine T.seq (T.rg (TO.qa rfl (TO.nil (T.ret (Res.drop ?_)))))
   refine Res.one (.int .i64 1) Try.results21 rfl ?_
   refine ⟨[], Sub.of (List.nil_sublist _), congrArg (fun z : Nat => Value.int .i64 (z : Int)) (Eq.symm (a := checkB b) (b := 1) ?_), rfl⟩
   rw [← he]; exact edges_1 hlt50 (by omega) (fun q => by have := or_lt.2 ⟨q.1, q.2.1⟩; have := q.2.2; omega)
  refine DO.q rfl (QT.toB (q_move rfl) (decide_eq_false hs87)) ?_
  refine DO.guarded rfl rfl rfl (q_fa Try.underlying54 rfl inf5 rfl rfl) ?_
  refine DO.guarded rfl rfl rfl (q_lb 0 Try.underlying5 rfl rfl rfl rfl) ?_
  refine DO.guarded rfl rfl rfl (q_fa Try.underlying54 rfl inf5 rfl rfl) ?_
  refine DO.guarded rfl rfl rfl (q_lb 0 Try.underlying5 rfl rfl rfl rfl) ?_
  refine DO.guarded rfl rfl rfl (q_and (a := b.edges[j].pos) (b := b.edges[j].neg) .u8 rfl rfl (by show _ < 256; omega) (by show _ < 256; omega)) ?_
  refine DO.guarded rfl rfl rfl (q_neq rfl rfl) ?_
  refine DO.q rfl (q_pick0 rfl rfl) (DO.q rfl (q_assign rfl) ?_)
  refine DO.done ?_
  refine T.condP rfl (fun hc => ?_) (fun hc => ?_)
  ·have hlt76 : b.edges[j].pos &&& b.edges[j].neg ≠ 0 := by omega
   refine T.seq (T.rg (TO.qa rfl (TO.nil (T.ret (Res.drop ?_)))))
   refine Res.one (.int .i64 1) Try.results21 rfl ?_
   refine ⟨[], Sub.of (List.nil_sublist _), congrArg (fun z : Nat => Value.int .i64 (z : Int)) (Eq.symm (a := checkB b) (b := 1) ?_), rfl⟩
   rw [← he]; exact edges_1 hlt50 (by omega) (fun q => by have := or_lt.2 ⟨q.1, q.2.1⟩; have := q.2.2; omega)
  have hge76 : ¬ b.edges[j].pos &&& b.edges[j].neg ≠ 0 := by omega
  refine T.skip (T.rg (TO.q (q_addN (a := j) (b := 1) rfl rfl (by omega)) (TO.qm rfl (TO.nil ?_))))
  have hpl : b.edges[j].pos ||| b.edges[j].neg < 2 ^ b.vars.toNat := by omega
  exact ⟨j + 1, by omega, [oI bx1 26 (buC b sb sc eb ec tb tc)], (Sub.pick [1] rfl), rfl, by omega, by rw [← he, edges_0 hlt50 (by omega) ⟨(or_lt.1 hpl).1, (or_lt.1 hpl).2, by omega⟩], ⟨rfl, rfl, rfl, rfl, rfl, rfl, rfl, rfl, rfl, trivial⟩⟩
 have hge50 : ¬ j < b.edges.length := by omega
 refine T.exit ?_
 refine T.seq (T.rg (TO.qa rfl (TO.nil (T.ret (Res.drop ?_)))))
 refine Res.one (.int .i64 0) Try.results21 rfl ?_
 refine ⟨[], Sub.of (List.nil_sublist _), congrArg (fun z : Nat => Value.int .i64 (z : Int)) (Eq.symm (a := checkB b) (b := 0) ?_), rfl⟩
 rw [← he, List.drop_eq_nil_of_le (by omega)]; rfl
end Go.Proofs.Ytnamoapbienooaa

set_option maxRecDepth 20000
set_option maxHeartbeats 4000000
namespace Go.Proofs.Ytnamoapbienooaa
open Go.Lx Go.RowKit
set_option linter.unusedVariables false
set_option linter.unusedSimpArgs false
abbrev tarO (nb mb : Option Addr) (nc mn mc : Nat) (full : Int) (nx : List (List Int)) (xc xi xl xs xg xv xp xn : Nat) (ib lb pb : Option Addr) (ic lc pc : Nat) (s : TL) (sb : Option Addr) (sc : Nat) : List Lx.Item := [objI xc (.cells (List.toArray [(.int .i64 (s.clk : Int))]) 3 (0, 0)), objI xi (.cells (List.toArray [(.slice ib nx.length ic)]) 22 (0, 0)), objI xl (.cells (List.toArray [(.slice lb nx.length lc)]) 22 (0, 0)), objI xs (.cells (List.toArray [(.slice sb s.stk.length sc)]) 22 (0, 0)), objI xg (.cells (List.toArray [(.slice nb nx.length nc), (.slice mb mn mc), .int .u64 full]) 79 (0, 0)), objI xv (.cells (List.toArray [(.func (.func 107) #[] #[(.pointer (aD xc)), (.pointer (aD xi)), (.pointer (aD xl)), (.pointer (aD xs)), (.pointer (aD xg)), (.pointer (aD xv)), (.pointer (aD xp)), (.pointer (aD xn))])]) 104 (0, 0)), objI xp (.cells (List.toArray [(.slice pb nx.length pc)]) 22 (0, 0)), objI xn (.cells (List.toArray [(.int .i64 (s.cnt : Int))]) 3 (0, 0)), rowI ib ic 3 1 (nats s.idx), rowI lb lc 3 1 (nats s.low), rowI sb sc 3 1 (nats s.stk), rowI pb pc 3 1 (ints s.comp)]
theorem visitF (base : World) (nb mb : Option Addr) (nc mn mc : Nat) (full : Int) (vs : List Value) (nx : List (List Int)) (hS : Sl base nb vs) (hR : RowsR base vs nx) (hn : nx.length ≤ 1000000) (hrl : ∀ r ∈ nx, r.length ≤ 1000000) (hval : ∀ r ∈ nx, ∀ x ∈ r, 0 ≤ x ∧ x < (nx.length : Int)) (xc xi xl xs xg xv xp xn : Nat) (ib lb pb : Option Addr) (ic lc pc : Nat) :
  ∀ (m : Nat) (s : TL) (sb : Option Addr) (sc : Nat) (gray : List Nat) (v : Nat) (hm : s.idx.count 0 = m) (hok : TLok nx.length s) (h0 : TInv nx.length (adjE nx) gray s.ts) (hv : v < nx.length) (hv0 : s.idx[v]'(by rw [hok.li]; exact hv) = 0) (hg : ∀ g ∈ gray, Rch (adjE nx) g v),
  CallT Try.prog base 107 [.int .i64 (v : Int), (.pointer (aD xc)), (.pointer (aD xi)), (.pointer (aD xl)), (.pointer (aD xs)), (.pointer (aD xg)), (.pointer (aD xv)), (.pointer (aD xp)), (.pointer (aD xn))] (tarO nb mb nc mn mc full nx xc xi xl xs xg xv xp xn ib lb pb ic lc pc s sb sc) (fun _ O' => ∃ s' sb' sc' t, O' = tarO nb mb nc mn mc full nx xc xi xl xs xg xv xp xn ib lb pb ic lc pc s' sb' sc' ∧ VDone nx.length nx gray s v s' t) := by
 intro m
 induction m using Nat.strongRecOn with
 | _ m ih => ?_
 intro s sb sc gray v hm hok h0 hv hv0 hg
 refine CallT.enter Try.func107 rfl Try.ntmps107 rfl ?_
 have hli := hok.li; have hll := hok.ll; have hlc := hok.lc; have hck := hok.ck; have hsk := hok.sk
 obtain ⟨rb, rc, g1, s1⟩ := hR.get hv
 have hrv := hrl _ (List.getElem_mem hv)
 refine T.seq (T.rg (TO.q (q_lb 0 Try.underlying3 rfl rfl rfl rfl) (TO.q (q_addN (a := s.clk) (b := 1) rfl rfl (by omega)) (TO.l rfl (l_sb (v := .int .i64 ((s.clk + 1 : Nat) : Int)) (vs := [(.int .i64 ((s.clk + 1 : Nat) : Int))]) 0 inf3 rfl rfl rfl rfl rfl rfl (by simp [putL]) ?_)))))
 refine TO.nil (T.seq ?_)
 refine T.draws2 [oI xc 3 [(.int .i64 ((s.clk + 1 : Nat) : Int))], oI xi 22 [(.slice ib nx.length ic)], oI xl 22 [(.slice lb nx.length lc)], oI xs 22 [(.slice sb s.stk.length sc)], oI xg 79 [(.slice nb nx.length nc), (.slice mb mn mc), .int .u64 full], oI xv 104 [(.func (.func 107) #[] #[(.pointer (aD xc)), (.pointer (aD xi)), (.pointer (aD xl)), (.pointer (aD xs)), (.pointer (aD xg)), (.pointer (aD xv)), (.pointer (aD xp)), (.pointer (aD xn))])], oI xp 22 [(.slice pb nx.length pc)], oI xn 3 [(.int .i64 (s.cnt : Int))], rowI lb lc 3 1 (nats s.low), rowI sb sc 3 1 (nats s.stk), rowI pb pc 3 1 (ints s.comp)] [oI xc 3 [(.int .i64 ((s.clk + 1 : Nat) : Int))], oI xi 22 [(.slice ib nx.length ic)], oI xl 22 [(.slice lb nx.length lc)], oI xs 22 [(.slice sb s.stk.length sc)], oI xg 79 [(.slice nb nx.length nc), (.slice mb mn mc), .int .u64 full], oI xv 104 [(.func (.func 107) #[] #[(.pointer (aD xc)), (.pointer (aD xi)), (.pointer (aD xl)), (.pointer (aD xs)), (.pointer (aD xg)), (.pointer (aD xv)), (.pointer (aD xp)), (.pointer (aD xn))])], oI xp 22 [(.slice pb nx.length pc)], oI xn 3 [(.int .i64 (s.cnt : Int))], rowI ib ic 3 1 (nats s.idx), rowI lb lc 3 1 (nats s.low), rowI sb sc 3 1 (nats s.stk), rowI pb pc 3 1 (ints s.comp)] [(0, 0), (1, 0), (2, 0), (3, 0), (4, 0), (5, 0), (6, 3), (7, 4), (8, 0), (9, 2)] mixed (by kernel_rfl) (Sub.pick [0, 0, 0, 0, 0, 0, 0, 0, 1, 1, 1] rfl) (Sub.pick [0, 0, 0, 0, 0, 0, 0, 0, 0, 0, 0, 0] rfl) (fun _ _ _ h => h) ?_
 refine DO.q rfl (q_lb 1 Try.underlying22 rfl rfl rfl rfl) (DO.q rfl (q_move rfl) (DO.q rfl (q_lb 2 Try.underlying22 rfl rfl rfl rfl) (DO.q rfl (q_move rfl) (DO.q rfl (q_lb 0 Try.underlying3 rfl rfl rfl rfl) (DO.q rfl (q_lb 0 Try.underlying3 rfl rfl rfl rfl) ?_)))))
 refine DO.quiet2 rfl (q_ix (i := v) Try.underlying22 inf3 rfl rfl (rowO (mG 8 rfl))) ?_
 refine DO.last2 rfl rfl (l_st (j := v) (v := (.int .i64 ((s.clk + 1 : Nat) : Int))) (vs := [(.int .i64 ((s.clk + 1 : Nat) : Int))]) (cs := nats s.idx) 8 inf3 rfl rfl rfl rfl rfl (by simp) rfl (by first | (simp; omega) | (simp_all; omega)) ⟨Sub.pick [0, 0, 0, 0, 0, 0, 0, 0, 1, 1, 1] rfl, ?_⟩)
 refine DO.sub (O' := [oI xc 3 [(.int .i64 ((s.clk + 1 : Nat) : Int))], oI xi 22 [(.slice ib nx.length ic)], oI xl 22 [(.slice lb nx.length lc)], oI xs 22 [(.slice sb s.stk.length sc)], oI xg 79 [(.slice nb nx.length nc), (.slice mb mn mc), .int .u64 full], oI xv 104 [(.func (.func 107) #[] #[(.pointer (aD xc)), (.pointer (aD xi)), (.pointer (aD xl)), (.pointer (aD xs)), (.pointer (aD xg)), (.pointer (aD xv)), (.pointer (aD xp)), (.pointer (aD xn))])], oI xp 22 [(.slice pb nx.length pc)], oI xn 3 [(.int .i64 (s.cnt : Int))], rowI ib ic 3 1 (nats (s.idx.set v (s.clk + 1))), rowI lb lc 3 1 (nats s.low), rowI sb sc 3 1 (nats s.stk), rowI pb pc 3 1 (ints s.comp)]) (by rw [show putL (nats s.idx) v [(.int .i64 ((s.clk + 1 : Nat) : Int))] = nats (s.idx.set v (s.clk + 1)) from (by simp [putL])]; exact Sub.of (List.Sublist.refl _)) ?_
 refine DO.q rfl (q_ix (i := v) Try.underlying22 inf3 rfl rfl (rowO (mG 8 rfl))) ?_
 refine DO.last rfl rfl (l_st (j := v) (v := (.int .i64 ((s.clk + 1 : Nat) : Int))) (vs := [(.int .i64 ((s.clk + 1 : Nat) : Int))]) (cs := nats s.low) 9 inf3 rfl rfl rfl rfl rfl (by simp) rfl (by first | (simp; omega) | (simp_all; omega)) ?_)
 refine DO.sub (O' := [oI xc 3 [(.int .i64 ((s.clk + 1 : Nat) : Int))], oI xi 22 [(.slice ib nx.length ic)], oI xl 22 [(.slice lb nx.length lc)], oI xs 22 [(.slice sb s.stk.length sc)], oI xg 79 [(.slice nb nx.length nc), (.slice mb mn mc), .int .u64 full], oI xv 104 [(.func (.func 107) #[] #[(.pointer (aD xc)), (.pointer (aD xi)), (.pointer (aD xl)), (.pointer (aD xs)), (.pointer (aD xg)), (.pointer (aD xv)), (.pointer (aD xp)), (.pointer (aD xn))])], oI xp 22 [(.slice pb nx.length pc)], oI xn 3 [(.int .i64 (s.cnt : Int))], rowI ib ic 3 1 (nats (s.idx.set v (s.clk + 1))), rowI lb lc 3 1 (nats (s.low.set v (s.clk + 1))), rowI sb sc 3 1 (nats s.stk), rowI pb pc 3 1 (ints s.comp)]) (by rw [show putL (nats s.low) v [(.int .i64 ((s.clk + 1 : Nat) : Int))] = nats (s.low.set v (s.clk + 1)) from (by simp [putL])]; exact Sub.of (List.Sublist.refl _)) ?_
 refine DO.done ?_
 refine T.seq (T.rg (TO.q (q_lb 3 Try.underlying22 rfl rfl rfl rfl) (TO.qm rfl (TO.l rfl (l_build1 (v := .int .i64 (v : Int)) Try.underlying22 inf3 rfl rfl rfl (fun bx1 => ?_))))))
 refine TO.l rfl (l_append 11 Try.underlying22 Try.underlying22 inf3 rfl rfl rfl rfl (by simp) (by decide) (Src.row (j := 0) rfl (by simp)) (by simp [oneB]) (by omega) (by decide) (by decide) (fun bx2 c3 => ?_))
 refine TO.l rfl (l_sb (v := (.slice bx2 (s.stk.length + 1) c3)) (vs := [(.slice bx2 (s.stk.length + 1) c3)]) 4 inf22 rfl rfl rfl rfl rfl rfl (by simp [putL]) ?_)
 refine TO.sub (O' := [oI xc 3 [(.int .i64 ((s.clk + 1 : Nat) : Int))], oI xi 22 [(.slice ib nx.length ic)], oI xl 22 [(.slice lb nx.length lc)], oI xs 22 [(.slice bx2 (s.stk.length + 1) c3)], oI xg 79 [(.slice nb nx.length nc), (.slice mb mn mc), .int .u64 full], oI xv 104 [(.func (.func 107) #[] #[(.pointer (aD xc)), (.pointer (aD xi)), (.pointer (aD xl)), (.pointer (aD xs)), (.pointer (aD xg)), (.pointer (aD xv)), (.pointer (aD xp)), (.pointer (aD xn))])], oI xp 22 [(.slice pb nx.length pc)], oI xn 3 [(.int .i64 (s.cnt : Int))], rowI ib ic 3 1 (nats (s.idx.set v (s.clk + 1))), rowI lb lc 3 1 (nats (s.low.set v (s.clk + 1))), rowI bx2 c3 3 1 ((nats s.stk) ++ [.int .i64 (v : Int)]), rowI pb pc 3 1 (ints s.comp)]) (Sub.pick [1, 1, 1, 1, 1, 1, 1, 1, 1, 1, 1, 1] rfl) ?_
 refine TO.nil (T.seq (T.seq (T.rg (TO.q (q_fa Try.underlying79 rfl inf24 rfl rfl) (TO.q (q_lb 4 Try.underlying24 rfl rfl rfl rfl) (TO.qm rfl (TO.q (q_ix (i := v) Try.underlying24 inf22 rfl rfl (Sl.o hS) (by first | assumption | omega | (simp; omega) | simp_all) (by rw [hR.1]; exact hv)) (TO.q (q_ld Try.underlying22 rfl rfl (Sl.o hS) g1) (TO.q (q_len Try.underlying22 rfl) (TO.qm rfl (TO.nil (T.block ?_))))))))))))
 refine T.loop (fun (k : Nat) ρ O => ∃ (z : TL) (zb : Option Addr) (zc : Nat) (t : List Nat), O = [oI xc 3 [(.int .i64 (z.clk : Int))], oI xi 22 [(.slice ib nx.length ic)], oI xl 22 [(.slice lb nx.length lc)], oI xs 22 [(.slice zb z.stk.length zc)], oI xg 79 [(.slice nb nx.length nc), (.slice mb mn mc), .int .u64 full], oI xv 104 [(.func (.func 107) #[] #[(.pointer (aD xc)), (.pointer (aD xi)), (.pointer (aD xl)), (.pointer (aD xs)), (.pointer (aD xg)), (.pointer (aD xv)), (.pointer (aD xp)), (.pointer (aD xn))])], oI xp 22 [(.slice pb nx.length pc)], oI xn 3 [(.int .i64 (z.cnt : Int))], rowI ib ic 3 1 (nats z.idx), rowI lb lc 3 1 (nats z.low), rowI zb zc 3 1 (nats z.stk), rowI pb pc 3 1 (ints z.comp)] ∧ k ≤ nx[v].length ∧ VRun nx.length nx gray s v k z t ∧ Heads [(0, .int .i64 (v : Int)), (1, (.pointer (aD xc))), (2, (.pointer (aD xi))), (3, (.pointer (aD xl))), (4, (.pointer (aD xs))), (5, (.pointer (aD xg))), (6, (.pointer (aD xv))), (7, (.pointer (aD xp))), (8, (.pointer (aD xn))), (31, (.slice rb nx[v].length rc)), (32, .int .i64 (nx[v].length : Int)), (33, .int .i64 (k : Int))] ρ) (fun k => nx[v].length - k) 0 ?_ ?_
 ·exact ⟨{ s with idx := s.idx.set v (s.clk + 1), low := s.low.set v (s.clk + 1), stk := s.stk ++ [v], clk := s.clk + 1 }, bx2, c3, [], (by simp only [List.length_append, List.length_cons, List.length_nil, List.map_append, List.map_cons, List.map_nil]), Nat.zero_le _, VRun.enter hok h0 hv hv0 hg, ⟨rfl, rfl, rfl, rfl, rfl, rfl, rfl, rfl, rfl, rfl, rfl, rfl, trivial⟩⟩
 rintro k ρ O ⟨z, zb, zc, t, rfl, hk, hr, hH⟩
 obtain ⟨ρ0, rfl⟩ := hH.elim
 clear hH
 have hli := hr.ok.li; have hll := hr.ok.ll; have hlc := hr.ok.lc; have hzc := hr.ok.ct
 refine T.seq (T.rg (TO.q (q_lss rfl rfl) (TO.nil (T.seq (T.condP rfl (fun hc => ?_) (fun hc => ?_))))))
 ·have hlt34 : k < nx[v].length := by omega
  obtain ⟨u, hu, hul⟩ : ∃ u : Nat, nx[v][k] = (u : Int) ∧ u < nx.length := by
   have := hval _ (List.getElem_mem hv) _ (List.getElem_mem hlt34)
   exact ⟨nx[v][k].toNat, by omega, by omega⟩
  refine T.skip (T.seq (T.block (T.seq (T.rg (TO.q (q_ix (i := k) Try.underlying22 inf3 rfl rfl (Sl.o s1)) (TO.q (q_ld Try.underlying3 rfl rfl (Sl.o s1) (show (ints nx[v])[k]? = _ by rw [ints_get hlt34, hu])) (TO.qa rfl (TO.nil (T.seq (T.rg (TO.q (q_lb 1 Try.underlying22 rfl rfl rfl rfl) (TO.qm rfl (TO.q (q_ix (i := u) Try.underlying22 inf3 rfl rfl (rowO (mG 8 rfl))) (TO.q (q_ld Try.underlying3 rfl rfl (rowO (mG 8 rfl)) nats_get) (TO.q (q_eql rfl rfl) (TO.nil (T.condP rfl (fun hc => ?_) (fun hc => ?_))))))))))))))))))
  ·have hlt41 : z.idx[u] = 0 := by omega
   refine T.seq (T.rg (TO.q (q_lb 5 Try.underlying104 rfl rfl rfl rfl) (TO.qm rfl ?_)))
   have hk44 := CallV.of_fn (first := []) (args := [.int .i64 (u : Int)]) (caps := [(.pointer (aD xc)), (.pointer (aD xi)), (.pointer (aD xl)), (.pointer (aD xs)), (.pointer (aD xg)), (.pointer (aD xv)), (.pointer (aD xp)), (.pointer (aD xn))]) ent107 (ih _ (by have := hr.lt; omega) z zb zc (gray ++ [v]) u rfl hr.ok hr.lp.inv hul (by omega) (hr.child hg hv hlt34 hu))
   refine TO.l rfl (l_callG hk44 rfl rfl ?_)
   clear hk44
   rintro vr O' ⟨z2, zb2, zc2, t2, rfl, hd2⟩
   have hli2 := hd2.ok.li; have hll2 := hd2.ok.ll; have hlc2 := hd2.ok.lc
   refine TO.nil ?_
   refine T.draws _ [(0, 0), (1, 0), (2, 0), (3, 0), (4, 0), (5, 0), (6, 0), (7, 0), (8, 0), (9, 0), (10, 0), (11, 0), (12, 2)] mixed (by kernel_rfl) (Sub.of (List.Sublist.refl _)) (fun _ _ _ h => h) ?_
   refine DO.q rfl (q_lb 2 Try.underlying22 rfl rfl rfl rfl) (DO.q rfl (q_move rfl) (DO.q rfl (q_lb 2 Try.underlying22 rfl rfl rfl rfl) (DO.q rfl (q_move rfl) (DO.q rfl (q_ix (i := v) Try.underlying22 inf3 rfl rfl (rowO (mG 9 rfl))) (DO.q rfl (q_ld Try.underlying3 rfl rfl (rowO (mG 9 rfl)) nats_get) (DO.q rfl (q_lb 2 Try.underlying22 rfl rfl rfl rfl) (DO.q rfl (q_move rfl) (DO.q rfl (q_ix (i := u) Try.underlying22 inf3 rfl rfl (rowO (mG 9 rfl))) (DO.q rfl (q_ld Try.underlying3 rfl rfl (rowO (mG 9 rfl)) nats_get) (DO.q rfl (q_minN (a := z2.low[v]) (b := z2.low[u]) rfl rfl) (DO.q rfl (q_ix (i := v) Try.underlying22 inf3 rfl rfl (rowO (mG 9 rfl))) ?_)))))))))))
   refine DO.last rfl rfl (l_st (j := v) (v := .int .i64 ((min z2.low[v] z2.low[u] : Nat) : Int)) (vs := [(.int .i64 ((min z2.low[v] z2.low[u] : Nat) : Int))]) (cs := nats z2.low) 9 inf3 rfl rfl rfl rfl rfl (by simp) rfl (by first | (simp; omega) | (simp_all; omega)) ?_)
   refine DO.sub (O' := [oI xc 3 [(.int .i64 (z2.clk : Int))], oI xi 22 [(.slice ib nx.length ic)], oI xl 22 [(.slice lb nx.length lc)], oI xs 22 [(.slice zb2 z2.stk.length zc2)], oI xg 79 [(.slice nb nx.length nc), (.slice mb mn mc), .int .u64 full], oI xv 104 [(.func (.func 107) #[] #[(.pointer (aD xc)), (.pointer (aD xi)), (.pointer (aD xl)), (.pointer (aD xs)), (.pointer (aD xg)), (.pointer (aD xv)), (.pointer (aD xp)), (.pointer (aD xn))])], oI xp 22 [(.slice pb nx.length pc)], oI xn 3 [(.int .i64 (z2.cnt : Int))], rowI ib ic 3 1 (nats z2.idx), rowI lb lc 3 1 (nats (z2.low.set v (min z2.low[v] z2.low[u]))), rowI zb2 zc2 3 1 (nats z2.stk), rowI pb pc 3 1 (ints z2.comp)]) (by rw [show putL (nats z2.low) v [(.int .i64 ((min z2.low[v] z2.low[u] : Nat) : Int))] = nats (z2.low.set v (min z2.low[v] z2.low[u])) from (by simp [putL])]; exact Sub.of (List.Sublist.refl _)) ?_
   refine DO.done ?_
   refine T.rg (TO.q (q_addN (a := k) (b := 1) rfl rfl (by omega)) (TO.qm rfl (TO.nil ?_)))
   exact ⟨k + 1, by omega, { z2 with low := z2.low.set v (min z2.low[v] z2.low[u]) }, zb2, zc2, t ++ t2, rfl, by omega, hr.tree h0 hv hv hlt34 hu (by rw [gd (by omega)]; omega) hd2 (by rw [gd (by omega), gd (by omega)]), ⟨rfl, rfl, rfl, rfl, rfl, rfl, rfl, rfl, rfl, rfl, rfl, rfl, trivial⟩⟩
  have hge41 : ¬ z.idx[u] = 0 := by omega
  refine T.seq (T.rg (TO.q (q_lb 6 Try.underlying22 rfl rfl rfl rfl) (TO.qm rfl (TO.q (q_ix (i := u) Try.underlying22 inf3 rfl rfl (rowO (mG 11 rfl))) (TO.q (q_ld Try.underlying3 rfl rfl (rowO (mG 11 rfl)) ints_get) (TO.q (q_lss rfl rfl) (TO.nil (T.condP rfl (fun hc => ?_) (fun hc => ?_)))))))))
  ·refine T.draws _ [(0, 0), (1, 0), (2, 0), (3, 0), (4, 0), (5, 0), (6, 0), (7, 0), (8, 0), (9, 0), (10, 0), (11, 0), (12, 2)] mixed (by kernel_rfl) (Sub.of (List.Sublist.refl _)) (fun _ _ _ h => h) ?_
   refine DO.q rfl (q_lb 2 Try.underlying22 rfl rfl rfl rfl) (DO.q rfl (q_move rfl) (DO.q rfl (q_lb 2 Try.underlying22 rfl rfl rfl rfl) (DO.q rfl (q_move rfl) (DO.q rfl (q_ix (i := v) Try.underlying22 inf3 rfl rfl (rowO (mG 9 rfl))) (DO.q rfl (q_ld Try.underlying3 rfl rfl (rowO (mG 9 rfl)) nats_get) (DO.q rfl (q_lb 1 Try.underlying22 rfl rfl rfl rfl) (DO.q rfl (q_move rfl) (DO.q rfl (q_ix (i := u) Try.underlying22 inf3 rfl rfl (rowO (mG 8 rfl))) (DO.q rfl (q_ld Try.underlying3 rfl rfl (rowO (mG 8 rfl)) nats_get) (DO.q rfl (q_minN (a := z.low[v]) (b := z.idx[u]) rfl rfl) (DO.q rfl (q_ix (i := v) Try.underlying22 inf3 rfl rfl (rowO (mG 9 rfl))) ?_)))))))))))
   refine DO.last rfl rfl (l_st (j := v) (v := .int .i64 ((min z.low[v] z.idx[u] : Nat) : Int)) (vs := [(.int .i64 ((min z.low[v] z.idx[u] : Nat) : Int))]) (cs := nats z.low) 9 inf3 rfl rfl rfl rfl rfl (by simp) rfl (by first | (simp; omega) | (simp_all; omega)) ?_)
   refine DO.sub (O' := [oI xc 3 [(.int .i64 (z.clk : Int))], oI xi 22 [(.slice ib nx.length ic)], oI xl 22 [(.slice lb nx.length lc)], oI xs 22 [(.slice zb z.stk.length zc)], oI xg 79 [(.slice nb nx.length nc), (.slice mb mn mc), .int .u64 full], oI xv 104 [(.func (.func 107) #[] #[(.pointer (aD xc)), (.pointer (aD xi)), (.pointer (aD xl)), (.pointer (aD xs)), (.pointer (aD xg)), (.pointer (aD xv)), (.pointer (aD xp)), (.pointer (aD xn))])], oI xp 22 [(.slice pb nx.length pc)], oI xn 3 [(.int .i64 (z.cnt : Int))], rowI ib ic 3 1 (nats z.idx), rowI lb lc 3 1 (nats (z.low.set v (min z.low[v] z.idx[u]))), rowI zb zc 3 1 (nats z.stk), rowI pb pc 3 1 (ints z.comp)]) (by rw [show putL (nats z.low) v [(.int .i64 ((min z.low[v] z.idx[u] : Nat) : Int))] = nats (z.low.set v (min z.low[v] z.idx[u])) from (by simp [putL])]; exact Sub.of (List.Sublist.refl _)) ?_
   refine DO.done ?_
   refine T.rg (TO.q (q_addN (a := k) (b := 1) rfl rfl (by omega)) (TO.qm rfl (TO.nil ?_)))
   exact ⟨k + 1, by omega, { z with low := z.low.set v (min z.low[v] z.idx[u]) }, zb, zc, t, rfl, by omega, hr.back h0 hv hv hlt34 hu (by rw [gd (by omega)]; omega) (by rw [gz (by omega)]; omega) (by rw [gd (by omega), gd (by omega)]), ⟨rfl, rfl, rfl, rfl, rfl, rfl, rfl, rfl, rfl, rfl, rfl, rfl, trivial⟩⟩
  refine T.skip (T.rg (TO.q (q_addN (a := k) (b := 1) rfl rfl (by omega)) (TO.qm rfl (TO.nil ?_))))
  exact ⟨k + 1, by omega, z, zb, zc, t, rfl, by omega, hr.skip h0 hv hlt34 hu (by rw [gd (by omega)]; omega) (by rw [gz (by omega)]; omega), ⟨rfl, rfl, rfl, rfl, rfl, rfl, rfl, rfl, rfl, rfl, rfl, rfl, trivial⟩⟩
 have hge34 : ¬ k < nx[v].length := by omega
 refine T.exit ?_
 refine T.seq (T.seq ?_)
 refine T.draws _ [(0, 0), (1, 0), (2, 0), (3, 0), (4, 0), (5, 0), (6, 0), (7, 0), (8, 0)] mixed (by kernel_rfl) (Sub.of (List.Sublist.refl _)) (fun _ _ _ h => h) ?_
 refine DO.q rfl (q_lb 2 Try.underlying22 rfl rfl rfl rfl) (DO.q rfl (q_move rfl) (DO.q rfl (q_ix (i := v) Try.underlying22 inf3 rfl rfl (rowO (mG 9 rfl))) (DO.q rfl (q_ld Try.underlying3 rfl rfl (rowO (mG 9 rfl)) nats_get) (DO.q rfl (q_lb 1 Try.underlying22 rfl rfl rfl rfl) (DO.q rfl (q_move rfl) (DO.q rfl (q_ix (i := v) Try.underlying22 inf3 rfl rfl (rowO (mG 8 rfl))) (DO.q rfl (q_ld Try.underlying3 rfl rfl (rowO (mG 8 rfl)) nats_get) (DO.q rfl (q_neq rfl rfl) ?_))))))))
 refine DO.done ?_
 refine T.condP rfl (fun hc => ?_) (fun hc => ?_)
 ·have hlt83 : z.low[v] ≠ z.idx[v] := by omega
  refine T.ret ?_
  refine Res.zero Try.results107 ?_
  exact ⟨z, zb, zc, v :: t, rfl, hr.leave h0 hv hge34 (by rw [gd (by omega), gd (by omega)]; omega)⟩
 have hge83 : ¬ z.low[v] ≠ z.idx[v] := by omega
 have hlow : z.low.getD v 0 = z.idx.getD v 0 := by rw [gd (by omega), gd (by omega)]; omega
 refine T.skip (T.seq (T.block ?_))
 refine T.loop (fun (q : List Nat) ρ O => ∃ (t1 pop : List Nat) (cp : List Int), O = [oI xc 3 [(.int .i64 (z.clk : Int))], oI xi 22 [(.slice ib nx.length ic)], oI xl 22 [(.slice lb nx.length lc)], oI xs 22 [(.slice zb q.length zc)], oI xg 79 [(.slice nb nx.length nc), (.slice mb mn mc), .int .u64 full], oI xv 104 [(.func (.func 107) #[] #[(.pointer (aD xc)), (.pointer (aD xi)), (.pointer (aD xl)), (.pointer (aD xs)), (.pointer (aD xg)), (.pointer (aD xv)), (.pointer (aD xp)), (.pointer (aD xn))])], oI xp 22 [(.slice pb nx.length pc)], oI xn 3 [(.int .i64 (z.cnt : Int))], rowI ib ic 3 1 (nats z.idx), rowI lb lc 3 1 (nats z.low), rowI zb zc 3 1 (nats q), rowI pb pc 3 1 (ints cp)] ∧ q = s.stk ++ v :: t1 ∧ t = t1 ++ pop ∧ cp.length = nx.length ∧ (∀ x, cp.getD x (-1) = if x ∈ pop then (z.cnt : Int) else z.comp.getD x (-1)) ∧ Heads [(0, .int .i64 (v : Int)), (1, (.pointer (aD xc))), (2, (.pointer (aD xi))), (3, (.pointer (aD xl))), (4, (.pointer (aD xs))), (5, (.pointer (aD xg))), (6, (.pointer (aD xv))), (7, (.pointer (aD xp))), (8, (.pointer (aD xn)))] ρ) (fun q => q.length) z.stk ?_ ?_
 ·exact ⟨t, [], z.comp, rfl, hr.lp.stk, by simp, hlc, by simp, ⟨rfl, rfl, rfl, rfl, rfl, rfl, rfl, rfl, rfl, trivial⟩⟩
 rintro q ρ O ⟨t1, pop, cp, rfl, hq, ht, hcl, hcp, hH⟩
 obtain ⟨ρ0, rfl⟩ := hH.elim
 clear hH
 obtain ⟨st2, u, hst⟩ : ∃ st2 u, q = st2 ++ [u] := by
  rcases List.eq_nil_or_concat q with h | ⟨a, b, h⟩
  ·rw [hq] at h; simp at h
  ·exact ⟨a, b, h.trans (List.concat_eq_append ..)⟩
 have hql : q.length = st2.length + 1 := by rw [hst]; simp
 have hqg : q[st2.length]? = some u := by rw [hst]; simp
 have hqz : q.length ≤ z.stk.length := by
  have e : z.stk = s.stk ++ v :: t := hr.lp.stk
  rw [hq, e, ht]; simp
 have hqb : q.length ≤ 1000000 := by have := hr.ok.sk; have := hr.ok.ck; omega
 have hus : u ∈ z.stk := by
  have e : z.stk = s.stk ++ v :: t := hr.lp.stk
  have : u ∈ s.stk ++ v :: t1 := by rw [← hq, hst]; simp
  rw [e, ht]; simp at this ⊢
  rcases this with h | h | h
  ·exact .inl h
  ·exact .inr (.inl h)
  ·exact .inr (.inr (.inl h))
 have hul : u < nx.length := hr.lp.inv.vis u ((hr.lp.inv.mem u).1 hus).1
 refine T.have (φ := q.length ≤ zc) (fun w hI => by have := rowP.cap (hI.row (i := 10) rfl); simpa using this) (fun hcap => ?_)
 refine T.block (T.seq (T.rg ?_))
 refine TO.q (q_lb 3 Try.underlying22 rfl rfl rfl rfl) (TO.q (q_lb 3 Try.underlying22 rfl rfl rfl rfl) (TO.q (q_len Try.underlying22 rfl) (TO.q (QT.cast (q_subN (a := q.length) (b := 1) rfl rfl (by omega) (by omega)) (v' := .int .i64 ((st2.length : Nat) : Int)) (by rw [show q.length - 1 = st2.length by omega])) ?_)))
 refine TO.q (q_ix (i := st2.length) Try.underlying22 inf3 rfl rfl (rowO (mG 10 rfl))) (TO.q (q_ld Try.underlying3 rfl rfl (rowO (mG 10 rfl)) (show (nats q)[st2.length]? = some (.int .i64 ((u : Nat) : Int)) by rw [List.getElem?_map, hqg]; rfl)) (TO.qa rfl ?_))
 refine TO.nil (T.seq (T.rg (TO.q (q_lb 3 Try.underlying22 rfl rfl rfl rfl) (TO.q (q_lb 3 Try.underlying22 rfl rfl rfl rfl) (TO.q (q_len Try.underlying22 rfl) (TO.q (QT.cast (q_subN (a := q.length) (b := 1) rfl rfl (by omega) (by omega)) (v' := .int .i64 ((st2.length : Nat) : Int)) (by rw [show q.length - 1 = st2.length by omega])) (TO.l rfl (l_head (m := st2.length) 10 Try.underlying22 inf3 rfl rfl rfl (by omega) ?_))))))))
 refine TO.sub (O' := [oI xc 3 [(.int .i64 (z.clk : Int))], oI xi 22 [(.slice ib nx.length ic)], oI xl 22 [(.slice lb nx.length lc)], oI xs 22 [(.slice zb q.length zc)], oI xg 79 [(.slice nb nx.length nc), (.slice mb mn mc), .int .u64 full], oI xv 104 [(.func (.func 107) #[] #[(.pointer (aD xc)), (.pointer (aD xi)), (.pointer (aD xl)), (.pointer (aD xs)), (.pointer (aD xg)), (.pointer (aD xv)), (.pointer (aD xp)), (.pointer (aD xn))])], oI xp 22 [(.slice pb nx.length pc)], oI xn 3 [(.int .i64 (z.cnt : Int))], rowI ib ic 3 1 (nats z.idx), rowI lb lc 3 1 (nats z.low), rowI zb zc 3 1 (nats st2), rowI pb pc 3 1 (ints cp)]) (by rw [show (nats q).take (st2.length * 1) = nats st2 from (by rw [Nat.mul_one, ← List.map_take, hst, List.take_left])]; exact Sub.of (List.Sublist.refl _)) ?_
 refine TO.l rfl (l_sb (v := (.slice zb st2.length zc)) (vs := [(.slice zb st2.length zc)]) 3 inf22 rfl rfl rfl rfl rfl rfl (by simp [putL]) ?_)
 refine TO.nil (T.seq (T.rg (TO.q (q_lb 6 Try.underlying22 rfl rfl rfl rfl) (TO.qm rfl (TO.q (q_lb 7 Try.underlying3 rfl rfl rfl rfl) (TO.q (q_ix (i := u) Try.underlying22 inf3 rfl rfl (rowO (mG 11 rfl))) (TO.l rfl (l_st (j := u) (v := (.int .i64 (z.cnt : Int))) (vs := [(.int .i64 (z.cnt : Int))]) (cs := ints cp) 11 inf3 rfl rfl rfl rfl rfl (by simp) rfl (by first | (simp; omega) | (simp_all; omega)) ?_))))))))
 refine TO.sub (O' := [oI xc 3 [(.int .i64 (z.clk : Int))], oI xi 22 [(.slice ib nx.length ic)], oI xl 22 [(.slice lb nx.length lc)], oI xs 22 [(.slice zb st2.length zc)], oI xg 79 [(.slice nb nx.length nc), (.slice mb mn mc), .int .u64 full], oI xv 104 [(.func (.func 107) #[] #[(.pointer (aD xc)), (.pointer (aD xi)), (.pointer (aD xl)), (.pointer (aD xs)), (.pointer (aD xg)), (.pointer (aD xv)), (.pointer (aD xp)), (.pointer (aD xn))])], oI xp 22 [(.slice pb nx.length pc)], oI xn 3 [(.int .i64 (z.cnt : Int))], rowI ib ic 3 1 (nats z.idx), rowI lb lc 3 1 (nats z.low), rowI zb zc 3 1 (nats st2), rowI pb pc 3 1 (ints (cp.set u (z.cnt : Int)))]) (by rw [show putL (ints cp) u [(.int .i64 (z.cnt : Int))] = ints (cp.set u (z.cnt : Int)) from (by simp [putL])]; exact Sub.of (List.Sublist.refl _)) ?_
 refine TO.nil (T.seq (T.rg (TO.qm rfl (TO.qm rfl (TO.q (q_eql rfl rfl) (TO.nil (T.condP rfl (fun hc => ?_) (fun hc => ?_))))))))
 ·have hlt101 : u = v := by omega
  refine T.exit ?_
  refine T.rg (TO.q (q_lb 7 Try.underlying3 rfl rfl rfl rfl) (TO.q (q_addN (a := z.cnt) (b := 1) rfl rfl (by omega)) (TO.l rfl (l_sb (v := .int .i64 ((z.cnt + 1 : Nat) : Int)) (vs := [(.int .i64 ((z.cnt + 1 : Nat) : Int))]) 7 inf3 rfl rfl rfl rfl rfl rfl (by simp [putL]) ?_))))
  refine TO.nil ?_
  refine Res.zero Try.results107 ?_
  have hnt : v ∉ t1 := fun hm => by
   have := hr.lp.tnew (x := v) (by rw [ht]; exact List.mem_append_left _ hm)
   exact Nat.lt_irrefl _ this
  obtain ⟨h5, h6⟩ := pop_last (hq ▸ hst) (by omega) hnt
  have huv : u = v := by omega
  subst h6 h5 huv
  exact ⟨{ z with comp := cp.set u z.cnt, stk := s.stk, cnt := z.cnt + 1 }, zb, zc, [], rfl, hr.pop h0 hok hv hge34 hlow (by simp [hcl]) (fun x => by rw [fz_pop (by omega) hcp x, ht]; rfl)⟩
 have hge101 : ¬ u = v := by omega
 refine T.skip ?_
 obtain ⟨t1b, ht1, hs2⟩ := pop_split (hq ▸ hst) (by omega)
 exact ⟨st2, by omega, t1b, u :: pop, cp.set u z.cnt, rfl, hs2, by rw [ht, ht1]; simp, by simp [hcl], fz_pop (by omega) hcp, ⟨rfl, rfl, rfl, rfl, rfl, rfl, rfl, rfl, rfl, trivial⟩⟩
end Go.Proofs.Ytnamoapbienooaa

set_option maxRecDepth 20000
set_option maxHeartbeats 4000000
namespace Go.Proofs.Ytnamoapbienooaa
open Go.Lx Go.RowKit
set_option linter.unusedVariables false
set_option linter.unusedSimpArgs false
theorem componentsF (base : World) (nb mb : Option Addr) (nc mn mc : Nat) (full : Int) (vs : List Value) (nx : List (List Int)) (hS : Sl base nb vs) (hR : RowsR base vs nx) (hn : nx.length ≤ 1000000) (hrl : ∀ r ∈ nx, r.length ≤ 1000000) (hval : ∀ r ∈ nx, ∀ x ∈ r, 0 ≤ x ∧ x < (nx.length : Int)) :
  PureT Try.prog 74 [.agg #[.slice nb nx.length nc, .slice mb mn mc, .int .u64 full]] base fun v N => ∃ cb cc cn cnt, v = .tuple #[.slice cb nx.length cc, .int .i64 ((cnt : Nat) : Int)] ∧ N = [rowI cb cc 3 1 (nats cn)] ∧ cn.length = nx.length ∧ CompN nx cn cnt ∧ cnt ≤ nx.length := by
 refine CallT.enter Try.func74 rfl Try.ntmps74 rfl ?_
 refine T.seq (T.rg (TO.l rfl (l_box (v := (.agg #[(.slice nb nx.length nc), (.slice mb mn mc), .int .u64 full])) (cs := [(.slice nb nx.length nc), (.slice mb mn mc), .int .u64 full]) rfl rfl (fun bx1 => ?_))))
 refine TO.l rfl (l_alloc inf22 rfl (fun bx2 => ?_))
 refine TO.l rfl (l_alloc inf3 rfl (fun bx3 => ?_))
 refine TO.nil (T.seq (T.rg (TO.q (q_fa Try.underlying79 rfl inf24 rfl rfl) (TO.q (q_lb 2 Try.underlying24 rfl rfl rfl rfl) (TO.q (q_len Try.underlying24 rfl) (TO.qa rfl (TO.nil ?_)))))))
 refine T.cut (fun ρ O => ∃ (zA zB zC zD : Nat), O = [oI zC 22 [(.slice (aD zA) nx.length nx.length)], oI zD 22 [(.slice (aD zB) nx.length nx.length)], rowI (aD zA) nx.length 3 1 (List.replicate nx.length (.int .i64 0)), rowI (aD zB) nx.length 3 1 (List.replicate nx.length (.int .i64 0)), oI bx3 3 [(.int .i64 0)], oI bx2 22 [nS], oI bx1 79 [(.slice nb nx.length nc), (.slice mb mn mc), .int .u64 full]] ∧ Heads [(0, (.agg #[(.slice nb nx.length nc), (.slice mb mn mc), .int .u64 full])), (1, (.pointer (aD bx1))), (2, (.pointer (aD bx2))), (3, (.pointer (aD bx3))), (4, .int .i64 (nx.length : Int)), (5, (.pointer (aD zC))), (6, (.pointer (aD zD)))] ρ) ?_ ?_
 ·refine T.tree [] 8 mixed rfl (Sub.pick [] rfl) (fun _ _ _ h => h) ?_
  refine RO.quietT 0 rfl (by kernel_rfl) (q_move rfl) ?_
  refine RO.quietT 2 rfl (by kernel_rfl) (q_move rfl) ?_
  refine RO.fork [1, 3, 4, 5] (by kernel_rfl) rfl ⟨⟨_, rfl, rfl, l_makeSlice (m := nx.length) Try.underlying22 inf3 rfl rfl (by omega) (by omega) (fun zA => ⟨Sub.pick [] rfl, ?_⟩)⟩, ⟨_, rfl, rfl, l_makeSlice (m := nx.length) Try.underlying22 inf3 rfl rfl (by omega) (by omega) (fun zB => ⟨Sub.pick [] rfl, ?_⟩)⟩, ⟨_, rfl, rfl, l_alloc inf22 rfl (fun zC => ⟨Sub.pick [] rfl, ?_⟩)⟩, ⟨_, rfl, rfl, l_alloc inf22 rfl (fun zD => ⟨Sub.pick [] rfl, ?_⟩)⟩, trivial⟩
  ·refine RO.fork [3, 4, 5] (by kernel_rfl) rfl ⟨⟨_, rfl, rfl, l_makeSlice (m := nx.length) Try.underlying22 inf3 rfl rfl (by omega) (by omega) (fun zB => ⟨Sub.pick [] rfl, ?_⟩)⟩, ⟨_, rfl, rfl, l_alloc inf22 rfl (fun zC => ⟨Sub.pick [] rfl, ?_⟩)⟩, ⟨_, rfl, rfl, l_alloc inf22 rfl (fun zD => ⟨Sub.pick [] rfl, ?_⟩)⟩, trivial⟩
   ·refine RO.fork [4, 5] (by kernel_rfl) rfl ⟨⟨_, rfl, rfl, l_alloc inf22 rfl (fun zC => ⟨Sub.pick [] rfl, ?_⟩)⟩, ⟨_, rfl, rfl, l_alloc inf22 rfl (fun zD => ⟨Sub.pick [] rfl, ?_⟩)⟩, trivial⟩
    ·refine RO.fork [5] (by kernel_rfl) rfl ⟨⟨_, rfl, rfl, l_alloc inf22 rfl (fun zD => ⟨Sub.pick [] rfl, ?_⟩)⟩, trivial⟩
     refine RO.fork [6] (by kernel_rfl) rfl ⟨⟨_, rfl, rfl, l_sb (v := (.slice (aD zA) nx.length nx.length)) (vs := [(.slice (aD zA) nx.length nx.length)]) 1 inf22 rfl rfl rfl rfl rfl rfl (by simp [putL]) ⟨Sub.pick [] rfl, ?_⟩⟩, trivial⟩
     refine RO.fork [7] (by kernel_rfl) rfl ⟨⟨_, rfl, rfl, l_sb (v := (.slice (aD zB) nx.length nx.length)) (vs := [(.slice (aD zB) nx.length nx.length)]) 0 inf22 rfl rfl rfl rfl rfl rfl (by simp [putL]) ⟨Sub.pick [] rfl, ?_⟩⟩, trivial⟩
     exact RO.fin (by kernel_rfl) ⟨zA, zB, zC, zD, rfl, ⟨rfl, rfl, rfl, rfl, rfl, rfl, rfl, trivial⟩⟩ (Sub.pick [1, 0, 1, 0, 0, 0, 0] rfl)
    refine RO.fork [4] (by kernel_rfl) rfl ⟨⟨_, rfl, rfl, l_alloc inf22 rfl (fun zC => ⟨Sub.pick [] rfl, ?_⟩)⟩, trivial⟩
    refine RO.fork [6] (by kernel_rfl) rfl ⟨⟨_, rfl, rfl, l_sb (v := (.slice (aD zA) nx.length nx.length)) (vs := [(.slice (aD zA) nx.length nx.length)]) 0 inf22 rfl rfl rfl rfl rfl rfl (by simp [putL]) ⟨Sub.pick [] rfl, ?_⟩⟩, trivial⟩
    refine RO.fork [7] (by kernel_rfl) rfl ⟨⟨_, rfl, rfl, l_sb (v := (.slice (aD zB) nx.length nx.length)) (vs := [(.slice (aD zB) nx.length nx.length)]) 1 inf22 rfl rfl rfl rfl rfl rfl (by simp [putL]) ⟨Sub.pick [] rfl, ?_⟩⟩, trivial⟩
    exact RO.fin (by kernel_rfl) ⟨zA, zB, zC, zD, rfl, ⟨rfl, rfl, rfl, rfl, rfl, rfl, rfl, trivial⟩⟩ (Sub.pick [0, 0, 1, 0, 0, 0, 0] rfl)
   ·refine RO.fork [3, 5] (by kernel_rfl) rfl ⟨⟨_, rfl, rfl, l_makeSlice (m := nx.length) Try.underlying22 inf3 rfl rfl (by omega) (by omega) (fun zB => ⟨Sub.pick [] rfl, ?_⟩)⟩, ⟨_, rfl, rfl, l_alloc inf22 rfl (fun zD => ⟨Sub.pick [] rfl, ?_⟩)⟩, trivial⟩
    ·refine RO.fork [5] (by kernel_rfl) rfl ⟨⟨_, rfl, rfl, l_alloc inf22 rfl (fun zD => ⟨Sub.pick [] rfl, ?_⟩)⟩, trivial⟩
     refine RO.fork [6] (by kernel_rfl) rfl ⟨⟨_, rfl, rfl, l_sb (v := (.slice (aD zA) nx.length nx.length)) (vs := [(.slice (aD zA) nx.length nx.length)]) 2 inf22 rfl rfl rfl rfl rfl rfl (by simp [putL]) ⟨Sub.pick [] rfl, ?_⟩⟩, trivial⟩
     refine RO.fork [7] (by kernel_rfl) rfl ⟨⟨_, rfl, rfl, l_sb (v := (.slice (aD zB) nx.length nx.length)) (vs := [(.slice (aD zB) nx.length nx.length)]) 0 inf22 rfl rfl rfl rfl rfl rfl (by simp [putL]) ⟨Sub.pick [] rfl, ?_⟩⟩, trivial⟩
     exact RO.fin (by kernel_rfl) ⟨zA, zB, zC, zD, rfl, ⟨rfl, rfl, rfl, rfl, rfl, rfl, rfl, trivial⟩⟩ (Sub.pick [2, 0, 1, 0, 0, 0, 0] rfl)
    refine RO.fork [3, 6] (by kernel_rfl) rfl ⟨⟨_, rfl, rfl, l_makeSlice (m := nx.length) Try.underlying22 inf3 rfl rfl (by omega) (by omega) (fun zB => ⟨Sub.pick [] rfl, ?_⟩)⟩, ⟨_, rfl, rfl, l_sb (v := (.slice (aD zA) nx.length nx.length)) (vs := [(.slice (aD zA) nx.length nx.length)]) 1 inf22 rfl rfl rfl rfl rfl rfl (by simp [putL]) ⟨Sub.pick [] rfl, ?_⟩⟩, trivial⟩
    ·refine RO.fork [6] (by kernel_rfl) rfl ⟨⟨_, rfl, rfl, l_sb (v := (.slice (aD zA) nx.length nx.length)) (vs := [(.slice (aD zA) nx.length nx.length)]) 2 inf22 rfl rfl rfl rfl rfl rfl (by simp [putL]) ⟨Sub.pick [] rfl, ?_⟩⟩, trivial⟩
     refine RO.fork [7] (by kernel_rfl) rfl ⟨⟨_, rfl, rfl, l_sb (v := (.slice (aD zB) nx.length nx.length)) (vs := [(.slice (aD zB) nx.length nx.length)]) 1 inf22 rfl rfl rfl rfl rfl rfl (by simp [putL]) ⟨Sub.pick [] rfl, ?_⟩⟩, trivial⟩
     exact RO.fin (by kernel_rfl) ⟨zA, zB, zC, zD, rfl, ⟨rfl, rfl, rfl, rfl, rfl, rfl, rfl, trivial⟩⟩ (Sub.pick [2, 1, 1, 0, 0, 0, 0] rfl)
    refine RO.fork [3] (by kernel_rfl) rfl ⟨⟨_, rfl, rfl, l_makeSlice (m := nx.length) Try.underlying22 inf3 rfl rfl (by omega) (by omega) (fun zB => ⟨Sub.pick [] rfl, ?_⟩)⟩, trivial⟩
    refine RO.fork [7] (by kernel_rfl) rfl ⟨⟨_, rfl, rfl, l_sb (v := (.slice (aD zB) nx.length nx.length)) (vs := [(.slice (aD zB) nx.length nx.length)]) 1 inf22 rfl rfl rfl rfl rfl rfl (by simp [putL]) ⟨Sub.pick [] rfl, ?_⟩⟩, trivial⟩
    exact RO.fin (by kernel_rfl) ⟨zA, zB, zC, zD, rfl, ⟨rfl, rfl, rfl, rfl, rfl, rfl, rfl, trivial⟩⟩ (Sub.pick [2, 1, 1, 0, 0, 0, 0] rfl)
   refine RO.fork [3, 4] (by kernel_rfl) rfl ⟨⟨_, rfl, rfl, l_makeSlice (m := nx.length) Try.underlying22 inf3 rfl rfl (by omega) (by omega) (fun zB => ⟨Sub.pick [] rfl, ?_⟩)⟩, ⟨_, rfl, rfl, l_alloc inf22 rfl (fun zC => ⟨Sub.pick [] rfl, ?_⟩)⟩, trivial⟩
   ·refine RO.fork [4] (by kernel_rfl) rfl ⟨⟨_, rfl, rfl, l_alloc inf22 rfl (fun zC => ⟨Sub.pick [] rfl, ?_⟩)⟩, trivial⟩
    refine RO.fork [6] (by kernel_rfl) rfl ⟨⟨_, rfl, rfl, l_sb (v := (.slice (aD zA) nx.length nx.length)) (vs := [(.slice (aD zA) nx.length nx.length)]) 0 inf22 rfl rfl rfl rfl rfl rfl (by simp [putL]) ⟨Sub.pick [] rfl, ?_⟩⟩, trivial⟩
    refine RO.fork [7] (by kernel_rfl) rfl ⟨⟨_, rfl, rfl, l_sb (v := (.slice (aD zB) nx.length nx.length)) (vs := [(.slice (aD zB) nx.length nx.length)]) 2 inf22 rfl rfl rfl rfl rfl rfl (by simp [putL]) ⟨Sub.pick [] rfl, ?_⟩⟩, trivial⟩
    exact RO.fin (by kernel_rfl) ⟨zA, zB, zC, zD, rfl, ⟨rfl, rfl, rfl, rfl, rfl, rfl, rfl, trivial⟩⟩ (Sub.pick [0, 1, 1, 0, 0, 0, 0] rfl)
   refine RO.fork [3, 6] (by kernel_rfl) rfl ⟨⟨_, rfl, rfl, l_makeSlice (m := nx.length) Try.underlying22 inf3 rfl rfl (by omega) (by omega) (fun zB => ⟨Sub.pick [] rfl, ?_⟩)⟩, ⟨_, rfl, rfl, l_sb (v := (.slice (aD zA) nx.length nx.length)) (vs := [(.slice (aD zA) nx.length nx.length)]) 0 inf22 rfl rfl rfl rfl rfl rfl (by simp [putL]) ⟨Sub.pick [] rfl, ?_⟩⟩, trivial⟩
   ·refine RO.fork [6] (by kernel_rfl) rfl ⟨⟨_, rfl, rfl, l_sb (v := (.slice (aD zA) nx.length nx.length)) (vs := [(.slice (aD zA) nx.length nx.length)]) 1 inf22 rfl rfl rfl rfl rfl rfl (by simp [putL]) ⟨Sub.pick [] rfl, ?_⟩⟩, trivial⟩
    refine RO.fork [7] (by kernel_rfl) rfl ⟨⟨_, rfl, rfl, l_sb (v := (.slice (aD zB) nx.length nx.length)) (vs := [(.slice (aD zB) nx.length nx.length)]) 2 inf22 rfl rfl rfl rfl rfl rfl (by simp [putL]) ⟨Sub.pick [] rfl, ?_⟩⟩, trivial⟩
    exact RO.fin (by kernel_rfl) ⟨zA, zB, zC, zD, rfl, ⟨rfl, rfl, rfl, rfl, rfl, rfl, rfl, trivial⟩⟩ (Sub.pick [1, 1, 1, 0, 0, 0, 0] rfl)
   refine RO.fork [3] (by kernel_rfl) rfl ⟨⟨_, rfl, rfl, l_makeSlice (m := nx.length) Try.underlying22 inf3 rfl rfl (by omega) (by omega) (fun zB => ⟨Sub.pick [] rfl, ?_⟩)⟩, trivial⟩
   refine RO.fork [7] (by kernel_rfl) rfl ⟨⟨_, rfl, rfl, l_sb (v := (.slice (aD zB) nx.length nx.length)) (vs := [(.slice (aD zB) nx.length nx.length)]) 2 inf22 rfl rfl rfl rfl rfl rfl (by simp [putL]) ⟨Sub.pick [] rfl, ?_⟩⟩, trivial⟩
   exact RO.fin (by kernel_rfl) ⟨zA, zB, zC, zD, rfl, ⟨rfl, rfl, rfl, rfl, rfl, rfl, rfl, trivial⟩⟩ (Sub.pick [1, 1, 1, 0, 0, 0, 0] rfl)
  ·refine RO.fork [1, 4, 5] (by kernel_rfl) rfl ⟨⟨_, rfl, rfl, l_makeSlice (m := nx.length) Try.underlying22 inf3 rfl rfl (by omega) (by omega) (fun zA => ⟨Sub.pick [] rfl, ?_⟩)⟩, ⟨_, rfl, rfl, l_alloc inf22 rfl (fun zC => ⟨Sub.pick [] rfl, ?_⟩)⟩, ⟨_, rfl, rfl, l_alloc inf22 rfl (fun zD => ⟨Sub.pick [] rfl, ?_⟩)⟩, trivial⟩
   ·refine RO.fork [4, 5] (by kernel_rfl) rfl ⟨⟨_, rfl, rfl, l_alloc inf22 rfl (fun zC => ⟨Sub.pick [] rfl, ?_⟩)⟩, ⟨_, rfl, rfl, l_alloc inf22 rfl (fun zD => ⟨Sub.pick [] rfl, ?_⟩)⟩, trivial⟩
    ·refine RO.fork [5] (by kernel_rfl) rfl ⟨⟨_, rfl, rfl, l_alloc inf22 rfl (fun zD => ⟨Sub.pick [] rfl, ?_⟩)⟩, trivial⟩
     refine RO.fork [6] (by kernel_rfl) rfl ⟨⟨_, rfl, rfl, l_sb (v := (.slice (aD zA) nx.length nx.length)) (vs := [(.slice (aD zA) nx.length nx.length)]) 1 inf22 rfl rfl rfl rfl rfl rfl (by simp [putL]) ⟨Sub.pick [] rfl, ?_⟩⟩, trivial⟩
     refine RO.fork [7] (by kernel_rfl) rfl ⟨⟨_, rfl, rfl, l_sb (v := (.slice (aD zB) nx.length nx.length)) (vs := [(.slice (aD zB) nx.length nx.length)]) 0 inf22 rfl rfl rfl rfl rfl rfl (by simp [putL]) ⟨Sub.pick [] rfl, ?_⟩⟩, trivial⟩
     exact RO.fin (by kernel_rfl) ⟨zA, zB, zC, zD, rfl, ⟨rfl, rfl, rfl, rfl, rfl, rfl, rfl, trivial⟩⟩ (Sub.pick [1, 0, 0, 0, 0, 0, 0] rfl)
    refine RO.fork [4] (by kernel_rfl) rfl ⟨⟨_, rfl, rfl, l_alloc inf22 rfl (fun zC => ⟨Sub.pick [] rfl, ?_⟩)⟩, trivial⟩
    refine RO.fork [6] (by kernel_rfl) rfl ⟨⟨_, rfl, rfl, l_sb (v := (.slice (aD zA) nx.length nx.length)) (vs := [(.slice (aD zA) nx.length nx.length)]) 0 inf22 rfl rfl rfl rfl rfl rfl (by simp [putL]) ⟨Sub.pick [] rfl, ?_⟩⟩, trivial⟩
    refine RO.fork [7] (by kernel_rfl) rfl ⟨⟨_, rfl, rfl, l_sb (v := (.slice (aD zB) nx.length nx.length)) (vs := [(.slice (aD zB) nx.length nx.length)]) 1 inf22 rfl rfl rfl rfl rfl rfl (by simp [putL]) ⟨Sub.pick [] rfl, ?_⟩⟩, trivial⟩
    exact RO.fin (by kernel_rfl) ⟨zA, zB, zC, zD, rfl, ⟨rfl, rfl, rfl, rfl, rfl, rfl, rfl, trivial⟩⟩ (Sub.pick [0, 0, 0, 0, 0, 0, 0] rfl)
   ·refine RO.fork [1, 5] (by kernel_rfl) rfl ⟨⟨_, rfl, rfl, l_makeSlice (m := nx.length) Try.underlying22 inf3 rfl rfl (by omega) (by omega) (fun zA => ⟨Sub.pick [] rfl, ?_⟩)⟩, ⟨_, rfl, rfl, l_alloc inf22 rfl (fun zD => ⟨Sub.pick [] rfl, ?_⟩)⟩, trivial⟩
    ·refine RO.fork [5] (by kernel_rfl) rfl ⟨⟨_, rfl, rfl, l_alloc inf22 rfl (fun zD => ⟨Sub.pick [] rfl, ?_⟩)⟩, trivial⟩
     refine RO.fork [6] (by kernel_rfl) rfl ⟨⟨_, rfl, rfl, l_sb (v := (.slice (aD zA) nx.length nx.length)) (vs := [(.slice (aD zA) nx.length nx.length)]) 2 inf22 rfl rfl rfl rfl rfl rfl (by simp [putL]) ⟨Sub.pick [] rfl, ?_⟩⟩, trivial⟩
     refine RO.fork [7] (by kernel_rfl) rfl ⟨⟨_, rfl, rfl, l_sb (v := (.slice (aD zB) nx.length nx.length)) (vs := [(.slice (aD zB) nx.length nx.length)]) 0 inf22 rfl rfl rfl rfl rfl rfl (by simp [putL]) ⟨Sub.pick [] rfl, ?_⟩⟩, trivial⟩
     exact RO.fin (by kernel_rfl) ⟨zA, zB, zC, zD, rfl, ⟨rfl, rfl, rfl, rfl, rfl, rfl, rfl, trivial⟩⟩ (Sub.pick [2, 0, 0, 0, 0, 0, 0] rfl)
    refine RO.fork [1] (by kernel_rfl) rfl ⟨⟨_, rfl, rfl, l_makeSlice (m := nx.length) Try.underlying22 inf3 rfl rfl (by omega) (by omega) (fun zA => ⟨Sub.pick [] rfl, ?_⟩)⟩, trivial⟩
    refine RO.fork [6] (by kernel_rfl) rfl ⟨⟨_, rfl, rfl, l_sb (v := (.slice (aD zA) nx.length nx.length)) (vs := [(.slice (aD zA) nx.length nx.length)]) 2 inf22 rfl rfl rfl rfl rfl rfl (by simp [putL]) ⟨Sub.pick [] rfl, ?_⟩⟩, trivial⟩
    refine RO.fork [7] (by kernel_rfl) rfl ⟨⟨_, rfl, rfl, l_sb (v := (.slice (aD zB) nx.length nx.length)) (vs := [(.slice (aD zB) nx.length nx.length)]) 1 inf22 rfl rfl rfl rfl rfl rfl (by simp [putL]) ⟨Sub.pick [] rfl, ?_⟩⟩, trivial⟩
    exact RO.fin (by kernel_rfl) ⟨zA, zB, zC, zD, rfl, ⟨rfl, rfl, rfl, rfl, rfl, rfl, rfl, trivial⟩⟩ (Sub.pick [2, 1, 0, 0, 0, 0, 0] rfl)
   refine RO.fork [1, 4] (by kernel_rfl) rfl ⟨⟨_, rfl, rfl, l_makeSlice (m := nx.length) Try.underlying22 inf3 rfl rfl (by omega) (by omega) (fun zA => ⟨Sub.pick [] rfl, ?_⟩)⟩, ⟨_, rfl, rfl, l_alloc inf22 rfl (fun zC => ⟨Sub.pick [] rfl, ?_⟩)⟩, trivial⟩
   ·refine RO.fork [4] (by kernel_rfl) rfl ⟨⟨_, rfl, rfl, l_alloc inf22 rfl (fun zC => ⟨Sub.pick [] rfl, ?_⟩)⟩, trivial⟩
    refine RO.fork [6] (by kernel_rfl) rfl ⟨⟨_, rfl, rfl, l_sb (v := (.slice (aD zA) nx.length nx.length)) (vs := [(.slice (aD zA) nx.length nx.length)]) 0 inf22 rfl rfl rfl rfl rfl rfl (by simp [putL]) ⟨Sub.pick [] rfl, ?_⟩⟩, trivial⟩
    refine RO.fork [7] (by kernel_rfl) rfl ⟨⟨_, rfl, rfl, l_sb (v := (.slice (aD zB) nx.length nx.length)) (vs := [(.slice (aD zB) nx.length nx.length)]) 2 inf22 rfl rfl rfl rfl rfl rfl (by simp [putL]) ⟨Sub.pick [] rfl, ?_⟩⟩, trivial⟩
    exact RO.fin (by kernel_rfl) ⟨zA, zB, zC, zD, rfl, ⟨rfl, rfl, rfl, rfl, rfl, rfl, rfl, trivial⟩⟩ (Sub.pick [0, 1, 0, 0, 0, 0, 0] rfl)
   refine RO.fork [1] (by kernel_rfl) rfl ⟨⟨_, rfl, rfl, l_makeSlice (m := nx.length) Try.underlying22 inf3 rfl rfl (by omega) (by omega) (fun zA => ⟨Sub.pick [] rfl, ?_⟩)⟩, trivial⟩
   refine RO.fork [6] (by kernel_rfl) rfl ⟨⟨_, rfl, rfl, l_sb (v := (.slice (aD zA) nx.length nx.length)) (vs := [(.slice (aD zA) nx.length nx.length)]) 1 inf22 rfl rfl rfl rfl rfl rfl (by simp [putL]) ⟨Sub.pick [] rfl, ?_⟩⟩, trivial⟩
   refine RO.fork [7] (by kernel_rfl) rfl ⟨⟨_, rfl, rfl, l_sb (v := (.slice (aD zB) nx.length nx.length)) (vs := [(.slice (aD zB) nx.length nx.length)]) 2 inf22 rfl rfl rfl rfl rfl rfl (by simp [putL]) ⟨Sub.pick [] rfl, ?_⟩⟩, trivial⟩
   exact RO.fin (by kernel_rfl) ⟨zA, zB, zC, zD, rfl, ⟨rfl, rfl, rfl, rfl, rfl, rfl, rfl, trivial⟩⟩ (Sub.pick [1, 1, 0, 0, 0, 0, 0] rfl)
  ·refine RO.fork [1, 3, 5] (by kernel_rfl) rfl ⟨⟨_, rfl, rfl, l_makeSlice (m := nx.length) Try.underlying22 inf3 rfl rfl (by omega) (by omega) (fun zA => ⟨Sub.pick [] rfl, ?_⟩)⟩, ⟨_, rfl, rfl, l_makeSlice (m := nx.length) Try.underlying22 inf3 rfl rfl (by omega) (by omega) (fun zB => ⟨Sub.pick [] rfl, ?_⟩)⟩, ⟨_, rfl, rfl, l_alloc inf22 rfl (fun zD => ⟨Sub.pick [] rfl, ?_⟩)⟩, trivial⟩
   ·refine RO.fork [3, 5] (by kernel_rfl) rfl ⟨⟨_, rfl, rfl, l_makeSlice (m := nx.length) Try.underlying22 inf3 rfl rfl (by omega) (by omega) (fun zB => ⟨Sub.pick [] rfl, ?_⟩)⟩, ⟨_, rfl, rfl, l_alloc inf22 rfl (fun zD => ⟨Sub.pick [] rfl, ?_⟩)⟩, trivial⟩
    ·refine RO.fork [5] (by kernel_rfl) rfl ⟨⟨_, rfl, rfl, l_alloc inf22 rfl (fun zD => ⟨Sub.pick [] rfl, ?_⟩)⟩, trivial⟩
     refine RO.fork [6] (by kernel_rfl) rfl ⟨⟨_, rfl, rfl, l_sb (v := (.slice (aD zA) nx.length nx.length)) (vs := [(.slice (aD zA) nx.length nx.length)]) 3 inf22 rfl rfl rfl rfl rfl rfl (by simp [putL]) ⟨Sub.pick [] rfl, ?_⟩⟩, trivial⟩
     refine RO.fork [7] (by kernel_rfl) rfl ⟨⟨_, rfl, rfl, l_sb (v := (.slice (aD zB) nx.length nx.length)) (vs := [(.slice (aD zB) nx.length nx.length)]) 0 inf22 rfl rfl rfl rfl rfl rfl (by simp [putL]) ⟨Sub.pick [] rfl, ?_⟩⟩, trivial⟩
     exact RO.fin (by kernel_rfl) ⟨zA, zB, zC, zD, rfl, ⟨rfl, rfl, rfl, rfl, rfl, rfl, rfl, trivial⟩⟩ (Sub.pick [3, 0, 1, 0, 0, 0, 0] rfl)
    refine RO.fork [3, 6] (by kernel_rfl) rfl ⟨⟨_, rfl, rfl, l_makeSlice (m := nx.length) Try.underlying22 inf3 rfl rfl (by omega) (by omega) (fun zB => ⟨Sub.pick [] rfl, ?_⟩)⟩, ⟨_, rfl, rfl, l_sb (v := (.slice (aD zA) nx.length nx.length)) (vs := [(.slice (aD zA) nx.length nx.length)]) 2 inf22 rfl rfl rfl rfl rfl rfl (by simp [putL]) ⟨Sub.pick [] rfl, ?_⟩⟩, trivial⟩
    ·refine RO.fork [6] (by kernel_rfl) rfl ⟨⟨_, rfl, rfl, l_sb (v := (.slice (aD zA) nx.length nx.length)) (vs := [(.slice (aD zA) nx.length nx.length)]) 3 inf22 rfl rfl rfl rfl rfl rfl (by simp [putL]) ⟨Sub.pick [] rfl, ?_⟩⟩, trivial⟩
     refine RO.fork [7] (by kernel_rfl) rfl ⟨⟨_, rfl, rfl, l_sb (v := (.slice (aD zB) nx.length nx.length)) (vs := [(.slice (aD zB) nx.length nx.length)]) 1 inf22 rfl rfl rfl rfl rfl rfl (by simp [putL]) ⟨Sub.pick [] rfl, ?_⟩⟩, trivial⟩
     exact RO.fin (by kernel_rfl) ⟨zA, zB, zC, zD, rfl, ⟨rfl, rfl, rfl, rfl, rfl, rfl, rfl, trivial⟩⟩ (Sub.pick [3, 1, 1, 0, 0, 0, 0] rfl)
    refine RO.fork [3] (by kernel_rfl) rfl ⟨⟨_, rfl, rfl, l_makeSlice (m := nx.length) Try.underlying22 inf3 rfl rfl (by omega) (by omega) (fun zB => ⟨Sub.pick [] rfl, ?_⟩)⟩, trivial⟩
    refine RO.fork [7] (by kernel_rfl) rfl ⟨⟨_, rfl, rfl, l_sb (v := (.slice (aD zB) nx.length nx.length)) (vs := [(.slice (aD zB) nx.length nx.length)]) 1 inf22 rfl rfl rfl rfl rfl rfl (by simp [putL]) ⟨Sub.pick [] rfl, ?_⟩⟩, trivial⟩
    exact RO.fin (by kernel_rfl) ⟨zA, zB, zC, zD, rfl, ⟨rfl, rfl, rfl, rfl, rfl, rfl, rfl, trivial⟩⟩ (Sub.pick [3, 1, 1, 0, 0, 0, 0] rfl)
   ·refine RO.fork [1, 5] (by kernel_rfl) rfl ⟨⟨_, rfl, rfl, l_makeSlice (m := nx.length) Try.underlying22 inf3 rfl rfl (by omega) (by omega) (fun zA => ⟨Sub.pick [] rfl, ?_⟩)⟩, ⟨_, rfl, rfl, l_alloc inf22 rfl (fun zD => ⟨Sub.pick [] rfl, ?_⟩)⟩, trivial⟩
    ·refine RO.fork [5] (by kernel_rfl) rfl ⟨⟨_, rfl, rfl, l_alloc inf22 rfl (fun zD => ⟨Sub.pick [] rfl, ?_⟩)⟩, trivial⟩
     refine RO.fork [6] (by kernel_rfl) rfl ⟨⟨_, rfl, rfl, l_sb (v := (.slice (aD zA) nx.length nx.length)) (vs := [(.slice (aD zA) nx.length nx.length)]) 3 inf22 rfl rfl rfl rfl rfl rfl (by simp [putL]) ⟨Sub.pick [] rfl, ?_⟩⟩, trivial⟩
     refine RO.fork [7] (by kernel_rfl) rfl ⟨⟨_, rfl, rfl, l_sb (v := (.slice (aD zB) nx.length nx.length)) (vs := [(.slice (aD zB) nx.length nx.length)]) 0 inf22 rfl rfl rfl rfl rfl rfl (by simp [putL]) ⟨Sub.pick [] rfl, ?_⟩⟩, trivial⟩
     exact RO.fin (by kernel_rfl) ⟨zA, zB, zC, zD, rfl, ⟨rfl, rfl, rfl, rfl, rfl, rfl, rfl, trivial⟩⟩ (Sub.pick [3, 0, 0, 0, 0, 0, 0] rfl)
    refine RO.fork [1] (by kernel_rfl) rfl ⟨⟨_, rfl, rfl, l_makeSlice (m := nx.length) Try.underlying22 inf3 rfl rfl (by omega) (by omega) (fun zA => ⟨Sub.pick [] rfl, ?_⟩)⟩, trivial⟩
    refine RO.fork [6] (by kernel_rfl) rfl ⟨⟨_, rfl, rfl, l_sb (v := (.slice (aD zA) nx.length nx.length)) (vs := [(.slice (aD zA) nx.length nx.length)]) 3 inf22 rfl rfl rfl rfl rfl rfl (by simp [putL]) ⟨Sub.pick [] rfl, ?_⟩⟩, trivial⟩
    refine RO.fork [7] (by kernel_rfl) rfl ⟨⟨_, rfl, rfl, l_sb (v := (.slice (aD zB) nx.length nx.length)) (vs := [(.slice (aD zB) nx.length nx.length)]) 1 inf22 rfl rfl rfl rfl rfl rfl (by simp [putL]) ⟨Sub.pick [] rfl, ?_⟩⟩, trivial⟩
    exact RO.fin (by kernel_rfl) ⟨zA, zB, zC, zD, rfl, ⟨rfl, rfl, rfl, rfl, rfl, rfl, rfl, trivial⟩⟩ (Sub.pick [3, 1, 0, 0, 0, 0, 0] rfl)
   refine RO.fork [1, 3] (by kernel_rfl) rfl ⟨⟨_, rfl, rfl, l_makeSlice (m := nx.length) Try.underlying22 inf3 rfl rfl (by omega) (by omega) (fun zA => ⟨Sub.pick [] rfl, ?_⟩)⟩, ⟨_, rfl, rfl, l_makeSlice (m := nx.length) Try.underlying22 inf3 rfl rfl (by omega) (by omega) (fun zB => ⟨Sub.pick [] rfl, ?_⟩)⟩, trivial⟩
   ·refine RO.fork [3, 6] (by kernel_rfl) rfl ⟨⟨_, rfl, rfl, l_makeSlice (m := nx.length) Try.underlying22 inf3 rfl rfl (by omega) (by omega) (fun zB => ⟨Sub.pick [] rfl, ?_⟩)⟩, ⟨_, rfl, rfl, l_sb (v := (.slice (aD zA) nx.length nx.length)) (vs := [(.slice (aD zA) nx.length nx.length)]) 2 inf22 rfl rfl rfl rfl rfl rfl (by simp [putL]) ⟨Sub.pick [] rfl, ?_⟩⟩, trivial⟩
    ·refine RO.fork [6] (by kernel_rfl) rfl ⟨⟨_, rfl, rfl, l_sb (v := (.slice (aD zA) nx.length nx.length)) (vs := [(.slice (aD zA) nx.length nx.length)]) 3 inf22 rfl rfl rfl rfl rfl rfl (by simp [putL]) ⟨Sub.pick [] rfl, ?_⟩⟩, trivial⟩
     refine RO.fork [7] (by kernel_rfl) rfl ⟨⟨_, rfl, rfl, l_sb (v := (.slice (aD zB) nx.length nx.length)) (vs := [(.slice (aD zB) nx.length nx.length)]) 2 inf22 rfl rfl rfl rfl rfl rfl (by simp [putL]) ⟨Sub.pick [] rfl, ?_⟩⟩, trivial⟩
     exact RO.fin (by kernel_rfl) ⟨zA, zB, zC, zD, rfl, ⟨rfl, rfl, rfl, rfl, rfl, rfl, rfl, trivial⟩⟩ (Sub.pick [3, 2, 1, 0, 0, 0, 0] rfl)
    refine RO.fork [3] (by kernel_rfl) rfl ⟨⟨_, rfl, rfl, l_makeSlice (m := nx.length) Try.underlying22 inf3 rfl rfl (by omega) (by omega) (fun zB => ⟨Sub.pick [] rfl, ?_⟩)⟩, trivial⟩
    refine RO.fork [7] (by kernel_rfl) rfl ⟨⟨_, rfl, rfl, l_sb (v := (.slice (aD zB) nx.length nx.length)) (vs := [(.slice (aD zB) nx.length nx.length)]) 2 inf22 rfl rfl rfl rfl rfl rfl (by simp [putL]) ⟨Sub.pick [] rfl, ?_⟩⟩, trivial⟩
    exact RO.fin (by kernel_rfl) ⟨zA, zB, zC, zD, rfl, ⟨rfl, rfl, rfl, rfl, rfl, rfl, rfl, trivial⟩⟩ (Sub.pick [3, 2, 1, 0, 0, 0, 0] rfl)
   refine RO.fork [1] (by kernel_rfl) rfl ⟨⟨_, rfl, rfl, l_makeSlice (m := nx.length) Try.underlying22 inf3 rfl rfl (by omega) (by omega) (fun zA => ⟨Sub.pick [] rfl, ?_⟩)⟩, trivial⟩
   refine RO.fork [6] (by kernel_rfl) rfl ⟨⟨_, rfl, rfl, l_sb (v := (.slice (aD zA) nx.length nx.length)) (vs := [(.slice (aD zA) nx.length nx.length)]) 3 inf22 rfl rfl rfl rfl rfl rfl (by simp [putL]) ⟨Sub.pick [] rfl, ?_⟩⟩, trivial⟩
   refine RO.fork [7] (by kernel_rfl) rfl ⟨⟨_, rfl, rfl, l_sb (v := (.slice (aD zB) nx.length nx.length)) (vs := [(.slice (aD zB) nx.length nx.length)]) 2 inf22 rfl rfl rfl rfl rfl rfl (by simp [putL]) ⟨Sub.pick [] rfl, ?_⟩⟩, trivial⟩
   exact RO.fin (by kernel_rfl) ⟨zA, zB, zC, zD, rfl, ⟨rfl, rfl, rfl, rfl, rfl, rfl, rfl, trivial⟩⟩ (Sub.pick [3, 2, 0, 0, 0, 0, 0] rfl)
  refine RO.fork [1, 3, 4] (by kernel_rfl) rfl ⟨⟨_, rfl, rfl, l_makeSlice (m := nx.length) Try.underlying22 inf3 rfl rfl (by omega) (by omega) (fun zA => ⟨Sub.pick [] rfl, ?_⟩)⟩, ⟨_, rfl, rfl, l_makeSlice (m := nx.length) Try.underlying22 inf3 rfl rfl (by omega) (by omega) (fun zB => ⟨Sub.pick [] rfl, ?_⟩)⟩, ⟨_, rfl, rfl, l_alloc inf22 rfl (fun zC => ⟨Sub.pick [] rfl, ?_⟩)⟩, trivial⟩
  ·refine RO.fork [3, 4] (by kernel_rfl) rfl ⟨⟨_, rfl, rfl, l_makeSlice (m := nx.length) Try.underlying22 inf3 rfl rfl (by omega) (by omega) (fun zB => ⟨Sub.pick [] rfl, ?_⟩)⟩, ⟨_, rfl, rfl, l_alloc inf22 rfl (fun zC => ⟨Sub.pick [] rfl, ?_⟩)⟩, trivial⟩
   ·refine RO.fork [4] (by kernel_rfl) rfl ⟨⟨_, rfl, rfl, l_alloc inf22 rfl (fun zC => ⟨Sub.pick [] rfl, ?_⟩)⟩, trivial⟩
    refine RO.fork [6] (by kernel_rfl) rfl ⟨⟨_, rfl, rfl, l_sb (v := (.slice (aD zA) nx.length nx.length)) (vs := [(.slice (aD zA) nx.length nx.length)]) 0 inf22 rfl rfl rfl rfl rfl rfl (by simp [putL]) ⟨Sub.pick [] rfl, ?_⟩⟩, trivial⟩
    refine RO.fork [7] (by kernel_rfl) rfl ⟨⟨_, rfl, rfl, l_sb (v := (.slice (aD zB) nx.length nx.length)) (vs := [(.slice (aD zB) nx.length nx.length)]) 3 inf22 rfl rfl rfl rfl rfl rfl (by simp [putL]) ⟨Sub.pick [] rfl, ?_⟩⟩, trivial⟩
    exact RO.fin (by kernel_rfl) ⟨zA, zB, zC, zD, rfl, ⟨rfl, rfl, rfl, rfl, rfl, rfl, rfl, trivial⟩⟩ (Sub.pick [0, 2, 1, 0, 0, 0, 0] rfl)
   refine RO.fork [3, 6] (by kernel_rfl) rfl ⟨⟨_, rfl, rfl, l_makeSlice (m := nx.length) Try.underlying22 inf3 rfl rfl (by omega) (by omega) (fun zB => ⟨Sub.pick [] rfl, ?_⟩)⟩, ⟨_, rfl, rfl, l_sb (v := (.slice (aD zA) nx.length nx.length)) (vs := [(.slice (aD zA) nx.length nx.length)]) 0 inf22 rfl rfl rfl rfl rfl rfl (by simp [putL]) ⟨Sub.pick [] rfl, ?_⟩⟩, trivial⟩
   ·refine RO.fork [6] (by kernel_rfl) rfl ⟨⟨_, rfl, rfl, l_sb (v := (.slice (aD zA) nx.length nx.length)) (vs := [(.slice (aD zA) nx.length nx.length)]) 1 inf22 rfl rfl rfl rfl rfl rfl (by simp [putL]) ⟨Sub.pick [] rfl, ?_⟩⟩, trivial⟩
    refine RO.fork [7] (by kernel_rfl) rfl ⟨⟨_, rfl, rfl, l_sb (v := (.slice (aD zB) nx.length nx.length)) (vs := [(.slice (aD zB) nx.length nx.length)]) 3 inf22 rfl rfl rfl rfl rfl rfl (by simp [putL]) ⟨Sub.pick [] rfl, ?_⟩⟩, trivial⟩
    exact RO.fin (by kernel_rfl) ⟨zA, zB, zC, zD, rfl, ⟨rfl, rfl, rfl, rfl, rfl, rfl, rfl, trivial⟩⟩ (Sub.pick [1, 2, 1, 0, 0, 0, 0] rfl)
   refine RO.fork [3] (by kernel_rfl) rfl ⟨⟨_, rfl, rfl, l_makeSlice (m := nx.length) Try.underlying22 inf3 rfl rfl (by omega) (by omega) (fun zB => ⟨Sub.pick [] rfl, ?_⟩)⟩, trivial⟩
   refine RO.fork [7] (by kernel_rfl) rfl ⟨⟨_, rfl, rfl, l_sb (v := (.slice (aD zB) nx.length nx.length)) (vs := [(.slice (aD zB) nx.length nx.length)]) 3 inf22 rfl rfl rfl rfl rfl rfl (by simp [putL]) ⟨Sub.pick [] rfl, ?_⟩⟩, trivial⟩
   exact RO.fin (by kernel_rfl) ⟨zA, zB, zC, zD, rfl, ⟨rfl, rfl, rfl, rfl, rfl, rfl, rfl, trivial⟩⟩ (Sub.pick [1, 2, 1, 0, 0, 0, 0] rfl)
  ·refine RO.fork [1, 4] (by kernel_rfl) rfl ⟨⟨_, rfl, rfl, l_makeSlice (m := nx.length) Try.underlying22 inf3 rfl rfl (by omega) (by omega) (fun zA => ⟨Sub.pick [] rfl, ?_⟩)⟩, ⟨_, rfl, rfl, l_alloc inf22 rfl (fun zC => ⟨Sub.pick [] rfl, ?_⟩)⟩, trivial⟩
   ·refine RO.fork [4] (by kernel_rfl) rfl ⟨⟨_, rfl, rfl, l_alloc inf22 rfl (fun zC => ⟨Sub.pick [] rfl, ?_⟩)⟩, trivial⟩
    refine RO.fork [6] (by kernel_rfl) rfl ⟨⟨_, rfl, rfl, l_sb (v := (.slice (aD zA) nx.length nx.length)) (vs := [(.slice (aD zA) nx.length nx.length)]) 0 inf22 rfl rfl rfl rfl rfl rfl (by simp [putL]) ⟨Sub.pick [] rfl, ?_⟩⟩, trivial⟩
    refine RO.fork [7] (by kernel_rfl) rfl ⟨⟨_, rfl, rfl, l_sb (v := (.slice (aD zB) nx.length nx.length)) (vs := [(.slice (aD zB) nx.length nx.length)]) 3 inf22 rfl rfl rfl rfl rfl rfl (by simp [putL]) ⟨Sub.pick [] rfl, ?_⟩⟩, trivial⟩
    exact RO.fin (by kernel_rfl) ⟨zA, zB, zC, zD, rfl, ⟨rfl, rfl, rfl, rfl, rfl, rfl, rfl, trivial⟩⟩ (Sub.pick [0, 2, 0, 0, 0, 0, 0] rfl)
   refine RO.fork [1] (by kernel_rfl) rfl ⟨⟨_, rfl, rfl, l_makeSlice (m := nx.length) Try.underlying22 inf3 rfl rfl (by omega) (by omega) (fun zA => ⟨Sub.pick [] rfl, ?_⟩)⟩, trivial⟩
   refine RO.fork [6] (by kernel_rfl) rfl ⟨⟨_, rfl, rfl, l_sb (v := (.slice (aD zA) nx.length nx.length)) (vs := [(.slice (aD zA) nx.length nx.length)]) 1 inf22 rfl rfl rfl rfl rfl rfl (by simp [putL]) ⟨Sub.pick [] rfl, ?_⟩⟩, trivial⟩
   refine RO.fork [7] (by kernel_rfl) rfl ⟨⟨_, rfl, rfl, l_sb (v := (.slice (aD zB) nx.length nx.length)) (vs := [(.slice (aD zB) nx.length nx.length)]) 3 inf22 rfl rfl rfl rfl rfl rfl (by simp [putL]) ⟨Sub.pick [] rfl, ?_⟩⟩, trivial⟩
   exact RO.fin (by kernel_rfl) ⟨zA, zB, zC, zD, rfl, ⟨rfl, rfl, rfl, rfl, rfl, rfl, rfl, trivial⟩⟩ (Sub.pick [1, 2, 0, 0, 0, 0, 0] rfl)
  refine RO.fork [1, 3] (by kernel_rfl) rfl ⟨⟨_, rfl, rfl, l_makeSlice (m := nx.length) Try.underlying22 inf3 rfl rfl (by omega) (by omega) (fun zA => ⟨Sub.pick [] rfl, ?_⟩)⟩, ⟨_, rfl, rfl, l_makeSlice (m := nx.length) Try.underlying22 inf3 rfl rfl (by omega) (by omega) (fun zB => ⟨Sub.pick [] rfl, ?_⟩)⟩, trivial⟩
  ·refine RO.fork [3, 6] (by kernel_rfl) rfl ⟨⟨_, rfl, rfl, l_makeSlice (m := nx.length) Try.underlying22 inf3 rfl rfl (by omega) (by omega) (fun zB => ⟨Sub.pick [] rfl, ?_⟩)⟩, ⟨_, rfl, rfl, l_sb (v := (.slice (aD zA) nx.length nx.length)) (vs := [(.slice (aD zA) nx.length nx.length)]) 1 inf22 rfl rfl rfl rfl rfl rfl (by simp [putL]) ⟨Sub.pick [] rfl, ?_⟩⟩, trivial⟩
   ·refine RO.fork [6] (by kernel_rfl) rfl ⟨⟨_, rfl, rfl, l_sb (v := (.slice (aD zA) nx.length nx.length)) (vs := [(.slice (aD zA) nx.length nx.length)]) 2 inf22 rfl rfl rfl rfl rfl rfl (by simp [putL]) ⟨Sub.pick [] rfl, ?_⟩⟩, trivial⟩
    refine RO.fork [7] (by kernel_rfl) rfl ⟨⟨_, rfl, rfl, l_sb (v := (.slice (aD zB) nx.length nx.length)) (vs := [(.slice (aD zB) nx.length nx.length)]) 3 inf22 rfl rfl rfl rfl rfl rfl (by simp [putL]) ⟨Sub.pick [] rfl, ?_⟩⟩, trivial⟩
    exact RO.fin (by kernel_rfl) ⟨zA, zB, zC, zD, rfl, ⟨rfl, rfl, rfl, rfl, rfl, rfl, rfl, trivial⟩⟩ (Sub.pick [2, 2, 1, 0, 0, 0, 0] rfl)
   refine RO.fork [3] (by kernel_rfl) rfl ⟨⟨_, rfl, rfl, l_makeSlice (m := nx.length) Try.underlying22 inf3 rfl rfl (by omega) (by omega) (fun zB => ⟨Sub.pick [] rfl, ?_⟩)⟩, trivial⟩
   refine RO.fork [7] (by kernel_rfl) rfl ⟨⟨_, rfl, rfl, l_sb (v := (.slice (aD zB) nx.length nx.length)) (vs := [(.slice (aD zB) nx.length nx.length)]) 3 inf22 rfl rfl rfl rfl rfl rfl (by simp [putL]) ⟨Sub.pick [] rfl, ?_⟩⟩, trivial⟩
   exact RO.fin (by kernel_rfl) ⟨zA, zB, zC, zD, rfl, ⟨rfl, rfl, rfl, rfl, rfl, rfl, rfl, trivial⟩⟩ (Sub.pick [2, 2, 1, 0, 0, 0, 0] rfl)
  refine RO.fork [1] (by kernel_rfl) rfl ⟨⟨_, rfl, rfl, l_makeSlice (m := nx.length) Try.underlying22 inf3 rfl rfl (by omega) (by omega) (fun zA => ⟨Sub.pick [] rfl, ?_⟩)⟩, trivial⟩
  refine RO.fork [6] (by kernel_rfl) rfl ⟨⟨_, rfl, rfl, l_sb (v := (.slice (aD zA) nx.length nx.length)) (vs := [(.slice (aD zA) nx.length nx.length)]) 2 inf22 rfl rfl rfl rfl rfl rfl (by simp [putL]) ⟨Sub.pick [] rfl, ?_⟩⟩, trivial⟩
  refine RO.fork [7] (by kernel_rfl) rfl ⟨⟨_, rfl, rfl, l_sb (v := (.slice (aD zB) nx.length nx.length)) (vs := [(.slice (aD zB) nx.length nx.length)]) 3 inf22 rfl rfl rfl rfl rfl rfl (by simp [putL]) ⟨Sub.pick [] rfl, ?_⟩⟩, trivial⟩
  exact RO.fin (by kernel_rfl) ⟨zA, zB, zC, zD, rfl, ⟨rfl, rfl, rfl, rfl, rfl, rfl, rfl, trivial⟩⟩ (Sub.pick [2, 2, 0, 0, 0, 0, 0] rfl)
 rintro ρ O ⟨zA, zB, zC, zD, rfl, hH⟩
 obtain ⟨ρ0, rfl⟩ := hH.elim
 clear hH
 refine T.seq (T.rg (TO.qm rfl (TO.l rfl (l_makeSlice (m := nx.length) Try.underlying22 inf3 rfl rfl (by omega) (by omega) (fun bx4 => ?_)))))
 refine TO.l rfl (l_sb (v := (.slice (aD bx4) nx.length nx.length)) (vs := [(.slice (aD bx4) nx.length nx.length)]) 6 inf22 rfl rfl rfl rfl rfl rfl (by simp [putL]) ?_)
 refine TO.nil (T.seq (T.seq (T.rg (TO.q (q_lb 6 Try.underlying22 rfl rfl rfl rfl) (TO.q (q_len Try.underlying22 rfl) (TO.qm rfl (TO.nil (T.block ?_))))))))
 refine T.loop (fun (k : Nat) ρ O => ∃ (cp : List Int), O = [rowI (aD bx4) nx.length 3 1 (ints cp), oI zC 22 [(.slice (aD zA) nx.length nx.length)], oI zD 22 [(.slice (aD zB) nx.length nx.length)], rowI (aD zA) nx.length 3 1 (List.replicate nx.length (.int .i64 0)), rowI (aD zB) nx.length 3 1 (List.replicate nx.length (.int .i64 0)), oI bx3 3 [(.int .i64 0)], oI bx2 22 [(.slice (aD bx4) nx.length nx.length)], oI bx1 79 [(.slice nb nx.length nc), (.slice mb mn mc), .int .u64 full]] ∧ k ≤ nx.length ∧ cp.length = nx.length ∧ cp.take k = List.replicate k (-1) ∧ Heads [(0, (.agg #[(.slice nb nx.length nc), (.slice mb mn mc), .int .u64 full])), (1, (.pointer (aD bx1))), (2, (.pointer (aD bx2))), (3, (.pointer (aD bx3))), (4, .int .i64 (nx.length : Int)), (5, (.pointer (aD zC))), (6, (.pointer (aD zD))), (22, .int .i64 (nx.length : Int)), (23, .int .i64 (k : Int))] ρ) (fun k => nx.length - k) 0 ?_ ?_
 ·exact ⟨List.replicate nx.length 0, by simp [putL], Nat.zero_le _, by simp, by simp, ⟨rfl, rfl, rfl, rfl, rfl, rfl, rfl, rfl, rfl, trivial⟩⟩
 rintro k ρ O ⟨cp, rfl, hk, hcl, hcp, hH⟩
 obtain ⟨ρ0, rfl⟩ := hH.elim
 clear hH
 refine T.seq (T.rg (TO.q (q_lss rfl rfl) (TO.nil (T.seq (T.condP rfl (fun hc => ?_) (fun hc => ?_))))))
 ·have hlt24 : k < nx.length := by omega
  refine T.skip (T.seq (T.block (T.seq (T.rg (TO.qm rfl (TO.qa rfl (TO.nil (T.rg (TO.q (q_lb 6 Try.underlying22 rfl rfl rfl rfl) (TO.qm rfl (TO.q (q_ix (i := k) Try.underlying22 inf3 rfl rfl (rowO (mG 0 rfl))) (TO.l rfl (l_st (j := k) (v := .int .i64 (-1)) (vs := [(.int .i64 (-1))]) (cs := ints cp) 0 inf3 rfl rfl rfl rfl rfl (by simp) rfl (by first | (simp; omega) | (simp_all; omega)) ?_)))))))))))))
  refine TO.sub (O' := [rowI (aD bx4) nx.length 3 1 (ints (cp.set k (-1))), oI zC 22 [(.slice (aD zA) nx.length nx.length)], oI zD 22 [(.slice (aD zB) nx.length nx.length)], rowI (aD zA) nx.length 3 1 (List.replicate nx.length (.int .i64 0)), rowI (aD zB) nx.length 3 1 (List.replicate nx.length (.int .i64 0)), oI bx3 3 [(.int .i64 0)], oI bx2 22 [(.slice (aD bx4) nx.length nx.length)], oI bx1 79 [(.slice nb nx.length nc), (.slice mb mn mc), .int .u64 full]]) (by rw [show putL (ints cp) k [(.int .i64 (-1))] = ints (cp.set k (-1)) from (by simp [putL])]; exact Sub.of (List.Sublist.refl _)) ?_
  refine TO.nil (T.rg (TO.q (q_addN (a := k) (b := 1) rfl rfl (by omega)) (TO.qm rfl (TO.nil ?_))))
  exact ⟨k + 1, by omega, cp.set k (-1), rfl, by omega, by simp [hcl], set_take hcp (by omega), ⟨rfl, rfl, rfl, rfl, rfl, rfl, rfl, rfl, rfl, trivial⟩⟩
 have hge24 : ¬ k < nx.length := by omega
 refine T.exit ?_
 refine T.seq (T.rg (TO.l rfl (l_alloc inf22 rfl (fun bx5 => ?_))))
 refine TO.nil (T.seq (T.rg (TO.l rfl (l_alloc inf3 rfl (fun bx6 => ?_)))))
 refine TO.l rfl (l_sb (v := .int .i64 0) (vs := [(.int .i64 0)]) 0 inf3 rfl rfl rfl rfl rfl rfl (by simp [putL]) ?_)
 refine TO.nil (T.seq (T.rg (TO.l rfl (l_alloc inf104 rfl (fun bx7 => ?_)))))
 refine TO.nil (T.seq (T.rg (TO.q (q_makeFunc) (TO.l rfl (l_sb (v := (.func (.func 107) #[] #[(.pointer (aD bx6)), (.pointer (aD zC)), (.pointer (aD zD)), (.pointer (aD bx5)), (.pointer (aD bx1)), (.pointer (aD bx7)), (.pointer (aD bx2)), (.pointer (aD bx3))])) (vs := [(.func (.func 107) #[] #[(.pointer (aD bx6)), (.pointer (aD zC)), (.pointer (aD zD)), (.pointer (aD bx5)), (.pointer (aD bx1)), (.pointer (aD bx7)), (.pointer (aD bx2)), (.pointer (aD bx3))])]) 0 inf104 rfl rfl rfl rfl rfl rfl (by simp [putL]) ?_)))))
 refine TO.nil (T.seq (T.seq (T.rg (TO.qm rfl (TO.qm rfl (TO.nil (T.block ?_)))))))
 have hcpe : cp = List.replicate nx.length (-1) := by rw [List.take_of_length_le (by omega)] at hcp; rw [hcp]; congr 1; omega
 subst hcpe
 refine T.nilRow 3 1 ?_
 refine T.sub (O' := [oI bx6 3 [(.int .i64 0)], oI zC 22 [(.slice (aD zA) nx.length nx.length)], oI zD 22 [(.slice (aD zB) nx.length nx.length)], oI bx5 22 [nS], oI bx1 79 [(.slice nb nx.length nc), (.slice mb mn mc), .int .u64 full], oI bx7 104 [(.func (.func 107) #[] #[(.pointer (aD bx6)), (.pointer (aD zC)), (.pointer (aD zD)), (.pointer (aD bx5)), (.pointer (aD bx1)), (.pointer (aD bx7)), (.pointer (aD bx2)), (.pointer (aD bx3))])], oI bx2 22 [(.slice (aD bx4) nx.length nx.length)], oI bx3 3 [(.int .i64 0)], rowI (aD zA) nx.length 3 1 (List.replicate nx.length (.int .i64 0)), rowI (aD zB) nx.length 3 1 (List.replicate nx.length (.int .i64 0)), rowI none 0 3 1 [], rowI (aD bx4) nx.length 3 1 (ints (List.replicate nx.length (-1)))]) (Sub.pick [2, 4, 4, 2, 7, 1, 5, 4, 2, 2, 0, 0] rfl) ?_
 refine T.loop (fun (k : Nat) ρ O => ∃ (s : TL) (sb : Option Addr) (sc : Nat), O = [oI bx6 3 [(.int .i64 (s.clk : Int))], oI zC 22 [(.slice (aD zA) nx.length nx.length)], oI zD 22 [(.slice (aD zB) nx.length nx.length)], oI bx5 22 [(.slice sb s.stk.length sc)], oI bx1 79 [(.slice nb nx.length nc), (.slice mb mn mc), .int .u64 full], oI bx7 104 [(.func (.func 107) #[] #[(.pointer (aD bx6)), (.pointer (aD zC)), (.pointer (aD zD)), (.pointer (aD bx5)), (.pointer (aD bx1)), (.pointer (aD bx7)), (.pointer (aD bx2)), (.pointer (aD bx3))])], oI bx2 22 [(.slice (aD bx4) nx.length nx.length)], oI bx3 3 [(.int .i64 (s.cnt : Int))], rowI (aD zA) nx.length 3 1 (nats s.idx), rowI (aD zB) nx.length 3 1 (nats s.low), rowI sb sc 3 1 (nats s.stk), rowI (aD bx4) nx.length 3 1 (ints s.comp)] ∧ k ≤ nx.length ∧ TLok nx.length s ∧ TInv nx.length (adjE nx) [] s.ts ∧ (∀ x, x < k → s.idx.getD x 0 ≠ 0) ∧ Heads [(0, (.agg #[(.slice nb nx.length nc), (.slice mb mn mc), .int .u64 full])), (1, (.pointer (aD bx1))), (2, (.pointer (aD bx2))), (3, (.pointer (aD bx3))), (4, .int .i64 (nx.length : Int)), (5, (.pointer (aD zC))), (6, (.pointer (aD zD))), (8, (.pointer (aD bx5))), (9, (.pointer (aD bx6))), (10, (.pointer (aD bx7))), (31, .int .i64 (nx.length : Int)), (32, .int .i64 (k : Int))] ρ) (fun k => nx.length - k) 0 ?_ ?_
 ·refine ⟨{ idx := List.replicate nx.length 0, low := List.replicate nx.length 0, comp := List.replicate nx.length (-1), stk := [], clk := 0, cnt := 0 }, none, 0, by simp only [List.map_replicate, List.map_nil, List.length_nil]; rfl, Nat.zero_le _, tlok_start _, tinv_start _, fun x hx => absurd hx (by omega), ⟨rfl, rfl, rfl, rfl, rfl, rfl, rfl, rfl, rfl, rfl, rfl, rfl, trivial⟩⟩
 rintro k ρ O ⟨s, sb, sc, rfl, hk, hok, hinv, hvis, hH⟩
 obtain ⟨ρ0, rfl⟩ := hH.elim
 clear hH
 have hli := hok.li
 refine T.seq (T.rg (TO.q (q_lss rfl rfl) (TO.nil (T.seq (T.condP rfl (fun hc => ?_) (fun hc => ?_))))))
 ·have hlt33 : k < nx.length := by omega
  refine T.skip (T.seq (T.block (T.seq (T.rg (TO.qm rfl (TO.qa rfl (TO.nil (T.seq (T.rg (TO.q (q_lb 1 Try.underlying22 rfl rfl rfl rfl) (TO.qm rfl (TO.q (q_ix (i := k) Try.underlying22 inf3 rfl rfl (rowO (mG 8 rfl))) (TO.q (q_ld Try.underlying3 rfl rfl (rowO (mG 8 rfl)) nats_get) (TO.q (q_eql rfl rfl) (TO.nil (T.condP rfl (fun hc => ?_) (fun hc => ?_)))))))))))))))))
  ·have hlt39 : s.idx[k] = 0 := by omega
   refine T.rg (TO.q (q_lb 5 Try.underlying104 rfl rfl rfl rfl) (TO.qm rfl ?_))
   have hk42 := CallV.of_fn (first := []) (args := [.int .i64 (k : Int)]) (caps := [(.pointer (aD bx6)), (.pointer (aD zC)), (.pointer (aD zD)), (.pointer (aD bx5)), (.pointer (aD bx1)), (.pointer (aD bx7)), (.pointer (aD bx2)), (.pointer (aD bx3))]) ent107 (visitF base nb mb nc mn mc full vs nx hS hR hn hrl hval bx6 zC zD bx5 bx1 bx7 bx2 bx3 (aD zA) (aD zB) (aD bx4) nx.length nx.length nx.length _ s sb sc [] k rfl hok hinv hlt33 (by omega) (fun g hg => (List.not_mem_nil hg).elim))
   refine TO.l rfl (l_callG hk42 rfl rfl ?_)
   clear hk42
   rintro vr O' ⟨s2, sb2, sc2, t2, rfl, hd⟩
   refine TO.nil (T.rg (TO.q (q_addN (a := k) (b := 1) rfl rfl (by omega)) (TO.qm rfl (TO.nil ?_))))
   exact ⟨k + 1, by omega, s2, sb2, sc2, rfl, by omega, hd.ok, hd.inv, vis_step hd.ext hvis hd.post.1, ⟨rfl, rfl, rfl, rfl, rfl, rfl, rfl, rfl, rfl, rfl, rfl, rfl, trivial⟩⟩
  have hge39 : ¬ s.idx[k] = 0 := by omega
  refine T.skip (T.rg (TO.q (q_addN (a := k) (b := 1) rfl rfl (by omega)) (TO.qm rfl (TO.nil ?_))))
  exact ⟨k + 1, by omega, s, sb, sc, rfl, by omega, hok, hinv, vis_snoc hvis (by rw [gd (by omega)]; omega), ⟨rfl, rfl, rfl, rfl, rfl, rfl, rfl, rfl, rfl, rfl, rfl, rfl, trivial⟩⟩
 have hge33 : ¬ k < nx.length := by omega
 refine T.exit ?_
 refine T.seq ?_
 refine T.draws _ [(0, 0), (1, 0), (2, 1), (3, 2)] mixed (by kernel_rfl) (Sub.of (List.Sublist.refl _)) (fun _ _ _ h => h) ?_
 refine DO.q rfl (q_lb 6 Try.underlying22 rfl rfl rfl rfl) (DO.q rfl (q_lb 7 Try.underlying3 rfl rfl rfl rfl) ?_)
 refine DO.loud rfl rfl (l_sb (v := (.slice (aD bx4) nx.length nx.length)) (vs := [(.slice (aD bx4) nx.length nx.length)]) 6 inf22 rfl rfl rfl rfl rfl rfl (by simp [putL]) ⟨Sub.pick [0, 0, 0, 0, 0, 0, 0, 0, 0, 0, 0, 0] rfl, ?_⟩)
 refine DO.last rfl rfl (l_sb (v := (.int .i64 (s.cnt : Int))) (vs := [(.int .i64 (s.cnt : Int))]) 7 inf3 rfl rfl rfl rfl rfl rfl (by simp [putL]) ?_)
 refine DO.done ?_
 refine T.ret (Res.drop ?_)
 refine Res.cell2s (i := 6) (j := 7) Try.results74 Try.underlying22 rfl Try.underlying3 rfl rfl rfl rfl rfl ?_
 have hco := hinv.done (fun v hv => hvis v (by omega))
 have e := ints_nats (cp := s.comp) (fun v hv => (hco.pos v (by rw [← hok.lc]; exact hv)).1)
 exact ⟨[rowI (aD bx4) nx.length 3 1 (ints s.comp)], (Sub.pick [11] rfl), _, _, s.comp.map Int.toNat, s.cnt, rfl, by rw [e], by simp [hok.lc], comp_nats hok.lc hco hval, by have := hok.ct; omega⟩
end Go.Proofs.Ytnamoapbienooaa

set_option maxRecDepth 20000
set_option maxHeartbeats 4000000
namespace Go.Proofs.Ytnamoapbienooaa
open Go.Lx Go.RowKit
set_option linter.unusedVariables false
set_option linter.unusedSimpArgs false
theorem liveF (base : World) (nb mb : Option Addr) (nc mc : Nat) (vs : List Value) (nx : List (List Int)) (ms : List Nat) (m : Nat) (hS : Sl base nb vs) (hR : RowsR base vs nx) (hn : nx.length ≤ 1000000) (hrl : ∀ r ∈ nx, r.length ≤ 1000000) (hval : okRows nx) (hM : Sl base mb (uns ms)) (hml : ms.length = nx.length) (hmb : ∀ x ∈ ms, x < 2 ^ m) (hm : m ≤ 8) :
  PureT Try.prog 55 [.agg #[.slice nb nx.length nc, .slice mb ms.length mc, .int .u64 ((2 ^ m - 1 : Nat) : Int)]] base fun v N => ∃ lb lc kb kc ls co, v = .tuple #[.slice lb nx.length lc, .slice kb nx.length kc] ∧ N = [rowI lb lc 4 1 (bools ls), rowI kb kc 4 1 (bools co)] ∧ ls.length = nx.length ∧ co.length = nx.length ∧ ∀ v, v < nx.length → (ls.getD v false = true ↔ Liv nx ms m v) ∧ (co.getD v false = true ↔ Cor nx ms m v) := by
 refine CallT.enter Try.func55 rfl Try.ntmps55 rfl ?_
 refine T.seq (T.rg (TO.l rfl (l_box (v := (.agg #[(.slice nb nx.length nc), (.slice mb ms.length mc), .int .u64 ((2 ^ m - 1 : Nat) : Int)])) (cs := [(.slice nb nx.length nc), (.slice mb ms.length mc), .int .u64 ((2 ^ m - 1 : Nat) : Int)]) rfl rfl (fun bx1 => ?_))))
 refine TO.qa rfl (TO.qa rfl (TO.nil (T.seq (T.rg (TO.q (q_la 0 Try.underlying79 rfl inf79 rfl rfl rfl) ?_)))))
 have hk28 := fun (w1 : World) (hI : Inv base [oI bx1 79 [(.slice nb nx.length nc), (.slice mb ms.length mc), .int .u64 ((2 ^ m - 1 : Nat) : Int)]] w1) => componentsF w1 nb mb nc ms.length mc ((2 ^ m - 1 : Nat) : Int) vs nx (hI.sl hS) (hI.rows hR) hn hrl hval
 refine TO.l rfl (l_call ent74 (CallT.pu hk28) rfl ?_)
 clear hk28
 rintro vr O' ⟨N, rfl, cb, cc, cn, cnt, rfl, rfl, hcl, hC, hcnt⟩
 refine TO.qm rfl (TO.q (q_extract (vs := _) rfl rfl) (TO.q (q_extract (vs := _) rfl rfl) (TO.qa rfl (TO.qa rfl (TO.nil ?_)))))
 refine T.cut (fun ρ O => ∃ (zA zB : Nat), O = [rowI (aD zA) cnt 4 1 (List.replicate cnt (.bool false)), rowI (aD zB) cnt 52 1 (List.replicate cnt (.int .u64 0)), rowI cb cc 3 1 (nats cn), oI bx1 79 [(.slice nb nx.length nc), (.slice mb ms.length mc), .int .u64 ((2 ^ m - 1 : Nat) : Int)]] ∧ Heads [(0, (.agg #[(.slice nb nx.length nc), (.slice mb ms.length mc), .int .u64 ((2 ^ m - 1 : Nat) : Int)])), (1, (.pointer (aD bx1))), (2, nS), (3, nS), (4, (.slice cb nx.length cc)), (5, .int .i64 ((cnt : Nat) : Int)), (6, (.slice (aD zA) cnt cnt)), (7, (.slice (aD zB) cnt cnt))] ρ) ?_ ?_
 ·refine T.tree [] 6 mixed rfl (Sub.pick [] rfl) (fun _ _ _ h => h) ?_
  refine RO.quietT 0 rfl (by kernel_rfl) (q_move rfl) ?_
  refine RO.quietT 2 rfl (by kernel_rfl) (q_move rfl) ?_
  refine RO.fork [1, 3] (by kernel_rfl) rfl ⟨⟨_, rfl, rfl, l_makeSlice (m := cnt) Try.underlying39 inf4 rfl rfl (by omega) (by omega) (fun zA => ⟨Sub.pick [] rfl, ?_⟩)⟩, ⟨_, rfl, rfl, l_makeSlice (m := cnt) Try.underlying77 inf52 rfl rfl (by omega) (by omega) (fun zB => ⟨Sub.pick [] rfl, ?_⟩)⟩, trivial⟩
  ·refine RO.quietT 4 rfl (by kernel_rfl) (q_assign rfl) ?_
   refine RO.fork [3] (by kernel_rfl) rfl ⟨⟨_, rfl, rfl, l_makeSlice (m := cnt) Try.underlying77 inf52 rfl rfl (by omega) (by omega) (fun zB => ⟨Sub.pick [] rfl, ?_⟩)⟩, trivial⟩
   refine RO.quietT 5 rfl (by kernel_rfl) (q_assign rfl) ?_
   exact RO.fin (by kernel_rfl) ⟨zA, zB, rfl, ⟨rfl, rfl, rfl, rfl, rfl, rfl, rfl, rfl, trivial⟩⟩ (Sub.pick [1, 0, 0, 0] rfl)
  refine RO.fork [1] (by kernel_rfl) rfl ⟨⟨_, rfl, rfl, l_makeSlice (m := cnt) Try.underlying39 inf4 rfl rfl (by omega) (by omega) (fun zA => ⟨Sub.pick [] rfl, ?_⟩)⟩, trivial⟩
  refine RO.quietT 4 rfl (by kernel_rfl) (q_assign rfl) ?_
  refine RO.quietT 5 rfl (by kernel_rfl) (q_assign rfl) ?_
  exact RO.fin (by kernel_rfl) ⟨zA, zB, rfl, ⟨rfl, rfl, rfl, rfl, rfl, rfl, rfl, rfl, trivial⟩⟩ (Sub.pick [0, 0, 0, 0] rfl)
 rintro ρ O ⟨zA, zB, rfl, hH⟩
 obtain ⟨ρ0, rfl⟩ := hH.elim
 clear hH
 refine T.seq (T.seq (T.rg (TO.q (q_fa Try.underlying79 rfl inf24 rfl rfl) (TO.q (q_lb 3 Try.underlying24 rfl rfl rfl rfl) (TO.q (q_len Try.underlying24 rfl) (TO.qm rfl (TO.nil (T.block ?_))))))))
 refine T.loop (fun (k : Nat) ρ O => ∃ (cy : List Bool) (ha : List Nat), O = [rowI (aD zA) cnt 4 1 (bools cy), rowI (aD zB) cnt 52 1 (uns ha), rowI cb cc 3 1 (nats cn), oI bx1 79 [(.slice nb nx.length nc), (.slice mb ms.length mc), .int .u64 ((2 ^ m - 1 : Nat) : Int)]] ∧ k ≤ nx.length ∧ CyP nx cn cnt k 0 cy ∧ HaP nx ms cn m cnt k ha ∧ Heads [(0, (.agg #[(.slice nb nx.length nc), (.slice mb ms.length mc), .int .u64 ((2 ^ m - 1 : Nat) : Int)])), (1, (.pointer (aD bx1))), (2, nS), (3, nS), (4, (.slice cb nx.length cc)), (5, .int .i64 ((cnt : Nat) : Int)), (6, (.slice (aD zA) cnt cnt)), (7, (.slice (aD zB) cnt cnt)), (36, (.slice nb nx.length nc)), (37, .int .i64 (nx.length : Int)), (38, .int .i64 (k : Int))] ρ) (fun k => nx.length - k) 0 ?_ ?_
 ·exact ⟨List.replicate cnt false, List.replicate cnt 0, (by first | (simp only [List.map_replicate]; done) | (simp only [List.map_replicate]; rfl)), Nat.zero_le _, CyP.start, HaP.start, ⟨rfl, rfl, rfl, rfl, rfl, rfl, rfl, rfl, rfl, rfl, rfl, trivial⟩⟩
 rintro k ρ O ⟨cy, ha, rfl, hk, hcy, hha, hH⟩
 obtain ⟨ρ0, rfl⟩ := hH.elim
 clear hH
 have hyl := hcy.l; have hhl := hha.l
 refine T.seq (T.rg (TO.q (q_lss rfl rfl) (TO.nil (T.seq (T.condP rfl (fun hc => ?_) (fun hc => ?_))))))
 ·have hlt39 : k < nx.length := by omega
  obtain ⟨rb, rc, g1, s1⟩ := hR.get hlt39
  have hrk := hrl _ (List.getElem_mem hlt39)
  have hfk : fn cn k = cn[k] := fn_get (by omega)
  have hck : cn[k] < cnt := by have := (hC.pos k (by omega)).2; have h2 : ((fn cn k : Nat) : Int) < cnt := this; omega
  have hb1 : ha[cn[k]] < 256 := lt64 (by have := hha.b cn[k]; rwa [gd (by omega)] at this) hm
  have hb2 : ms[k] < 256 := lt64 (hmb _ (List.getElem_mem _)) hm
  refine T.skip (T.seq (T.block (T.seq (T.rg (TO.qm rfl (TO.q (q_ix (i := k) Try.underlying24 inf22 rfl rfl (Sl.o hS) (by first | assumption | omega | (simp; omega) | simp_all) (by rw [hR.1]; exact hlt39)) (TO.q (q_ld Try.underlying22 rfl rfl (Sl.o hS) g1) (TO.qa rfl (TO.qa rfl (TO.nil (T.seq ?_)))))))))))
  refine T.draws _ [(0, 0), (1, 0), (2, 0), (3, 0), (4, 0), (5, 0), (6, 0), (7, 0), (8, 0), (9, 0), (10, 0), (11, 0), (12, 0), (13, 0), (14, 2)] mixed (by kernel_rfl) (Sub.of (List.Sublist.refl _)) (fun _ _ _ h => h) ?_
  refine DO.q rfl (q_move rfl) (DO.q rfl (q_move rfl) (DO.q rfl (q_move rfl) (DO.q rfl (q_ix (i := k) Try.underlying22 inf3 rfl rfl (rowO (mG 2 rfl))) (DO.q rfl (q_ld Try.underlying3 rfl rfl (rowO (mG 2 rfl)) nats_get) (DO.q rfl (q_ix (i := cn[k]) Try.underlying77 inf52 rfl rfl (rowO (mG 1 rfl))) (DO.q rfl (q_ld Try.underlying52 rfl rfl (rowO (mG 1 rfl)) uns_get) (DO.q rfl (q_fa Try.underlying79 rfl inf77 rfl rfl) (DO.q rfl (q_lb 3 Try.underlying77 rfl rfl rfl rfl) (DO.q rfl (q_move rfl) (DO.q rfl (q_ix (i := k) Try.underlying77 inf52 rfl rfl (Sl.o hM)) (DO.q rfl (q_ld Try.underlying52 rfl rfl (Sl.o hM) uns_get) (DO.q rfl (q_or (a := ha[cn[k]]) (b := ms[k]) .u64 rfl rfl (by show _ < 18446744073709551616; omega) (by show _ < 18446744073709551616; omega)) (DO.q rfl (q_ix (i := cn[k]) Try.underlying77 inf52 rfl rfl (rowO (mG 1 rfl))) ?_)))))))))))))
  refine DO.last rfl rfl (l_st (j := cn[k]) (v := .int .u64 ((ha[cn[k]] ||| ms[k] : Nat) : Int)) (vs := [(.int .u64 ((ha[cn[k]] ||| ms[k] : Nat) : Int))]) (cs := uns ha) 1 inf52 rfl rfl rfl rfl rfl (by simp) rfl (by first | (simp; omega) | (simp_all; omega)) ?_)
  refine DO.sub (O' := [rowI (aD zA) cnt 4 1 (bools cy), rowI (aD zB) cnt 52 1 (uns (ha.set cn[k] (ha[cn[k]] ||| ms[k]))), rowI cb cc 3 1 (nats cn), oI bx1 79 [(.slice nb nx.length nc), (.slice mb ms.length mc), .int .u64 ((2 ^ m - 1 : Nat) : Int)]]) (by rw [show putL (uns ha) cn[k] [(.int .u64 ((ha[cn[k]] ||| ms[k] : Nat) : Int))] = uns (ha.set cn[k] (ha[cn[k]] ||| ms[k])) from (by simp [putL])]; exact Sub.of (List.Sublist.refl _)) ?_
  refine DO.done ?_
  refine T.seq (T.rg (TO.qm rfl (TO.q (q_len Try.underlying22 rfl) (TO.qm rfl (TO.nil (T.block ?_))))))
  refine T.loop (fun (j : Nat) ρ O => ∃ (cz : List Bool), O = [rowI (aD zA) cnt 4 1 (bools cz), rowI (aD zB) cnt 52 1 (uns (ha.set cn[k] (ha[cn[k]] ||| ms[k]))), rowI cb cc 3 1 (nats cn), oI bx1 79 [(.slice nb nx.length nc), (.slice mb ms.length mc), .int .u64 ((2 ^ m - 1 : Nat) : Int)]] ∧ j ≤ nx[k].length ∧ CyP nx cn cnt k j cz ∧ Heads [(0, (.agg #[(.slice nb nx.length nc), (.slice mb ms.length mc), .int .u64 ((2 ^ m - 1 : Nat) : Int)])), (1, (.pointer (aD bx1))), (2, nS), (3, nS), (4, (.slice cb nx.length cc)), (5, .int .i64 ((cnt : Nat) : Int)), (6, (.slice (aD zA) cnt cnt)), (7, (.slice (aD zB) cnt cnt)), (8, .int .i64 (k : Int)), (9, (.slice rb nx[k].length rc)), (36, (.slice nb nx.length nc)), (37, .int .i64 (nx.length : Int)), (38, .int .i64 (k : Int)), (57, (.slice rb nx[k].length rc)), (58, .int .i64 (nx[k].length : Int)), (59, .int .i64 (j : Int))] ρ) (fun j => nx[k].length - j) 0 ?_ ?_
  ·exact ⟨cy, rfl, Nat.zero_le _, hcy, ⟨rfl, rfl, rfl, rfl, rfl, rfl, rfl, rfl, rfl, rfl, rfl, rfl, rfl, rfl, rfl, rfl, trivial⟩⟩
  rintro j ρ O ⟨cz, rfl, hj, hcz, hH⟩
  obtain ⟨ρ0, rfl⟩ := hH.elim
  clear hH
  have hzl := hcz.l
  refine T.seq (T.rg (TO.q (q_lss rfl rfl) (TO.nil (T.seq (T.condP rfl (fun hc => ?_) (fun hc => ?_))))))
  ·have hlt60 : j < nx[k].length := by omega
   obtain ⟨u, hu, hul⟩ : ∃ u : Nat, nx[k][j] = (u : Int) ∧ u < nx.length := by
    have := hval _ (List.getElem_mem hlt39) _ (List.getElem_mem hlt60)
    exact ⟨nx[k][j].toNat, by omega, by omega⟩
   have hfu : fn cn u = cn[u] := fn_get (by omega)
   have hcu : cn[u] < cnt := by have := (hC.pos u hul).2; have h2 : ((fn cn u : Nat) : Int) < cnt := this; omega
   refine T.skip (T.seq (T.block (T.seq (T.rg (TO.q (q_ix (i := j) Try.underlying22 inf3 rfl rfl (Sl.o s1)) (TO.q (q_ld Try.underlying3 rfl rfl (Sl.o s1) (show (ints nx[k])[j]? = _ by rw [ints_get hlt60, hu])) (TO.qa rfl (TO.nil ?_))))))))
   refine T.draws _ [(0, 0), (1, 0), (2, 0), (3, 0), (4, 0), (5, 0), (6, 0), (7, 0), (8, 0), (9, 0), (10, 0), (11, 0), (12, 0), (13, 0), (14, 0), (15, 0), (16, 0), (17, 0), (18, 0), (19, 0), (20, 0), (21, 0), (22, 0), (23, 0), (24, 2)] mixed (by kernel_rfl) (Sub.of (List.Sublist.refl _)) (fun _ _ _ h => h) ?_
   refine DO.q rfl (q_move rfl) (DO.q rfl (q_move rfl) (DO.q rfl (q_move rfl) (DO.q rfl (q_ix (i := k) Try.underlying22 inf3 rfl rfl (rowO (mG 2 rfl))) (DO.q rfl (q_ld Try.underlying3 rfl rfl (rowO (mG 2 rfl)) nats_get) (DO.q rfl (q_move rfl) (DO.q rfl (q_move rfl) (DO.q rfl (q_move rfl) (DO.q rfl (q_ix (i := k) Try.underlying22 inf3 rfl rfl (rowO (mG 2 rfl))) (DO.q rfl (q_ld Try.underlying3 rfl rfl (rowO (mG 2 rfl)) nats_get) (DO.q rfl (q_ix (i := cn[k]) Try.underlying39 inf4 rfl rfl (rowO (mG 0 rfl))) (DO.q rfl (q_ld Try.underlying4 rfl rfl (rowO (mG 0 rfl)) bools_get) ?_)))))))))))
   by_cases hs75 : cz[cn[k]] = true
   ·refine DO.q rfl (QT.toB (q_move rfl) (hs75)) ?_
    refine DO.passed rfl rfl rfl (DO.passed rfl rfl rfl (DO.passed rfl rfl rfl (DO.passed rfl rfl rfl (DO.passed rfl rfl rfl (DO.passed rfl rfl rfl (DO.passed rfl rfl rfl (DO.passed rfl rfl rfl ?_)))))))
    refine DO.passed rfl rfl rfl (DO.q rfl (q_pick1 rfl rfl) (DO.q rfl (q_ix (i := cn[k]) Try.underlying39 inf4 rfl rfl (rowO (mG 0 rfl))) ?_))
    refine DO.last rfl rfl (l_st (j := cn[k]) (v := .bool true) (vs := [(.bool true)]) (cs := bools cz) 0 inf4 rfl rfl rfl rfl rfl (by simp) rfl (by first | (simp; omega) | (simp_all; omega)) ?_)
    refine DO.sub (O' := [rowI (aD zA) cnt 4 1 (bools (cz.set cn[k] true)), rowI (aD zB) cnt 52 1 (uns (ha.set cn[k] (ha[cn[k]] ||| ms[k]))), rowI cb cc 3 1 (nats cn), oI bx1 79 [(.slice nb nx.length nc), (.slice mb ms.length mc), .int .u64 ((2 ^ m - 1 : Nat) : Int)]]) (by rw [show putL (bools cz) cn[k] [(.bool true)] = bools (cz.set cn[k] true) from (by simp [putL])]; exact Sub.of (List.Sublist.refl _)) ?_
    refine DO.done ?_
    refine T.rg (TO.q (q_addN (a := j) (b := 1) rfl rfl (by omega)) (TO.qm rfl (TO.nil ?_)))
    exact ⟨j + 1, by omega, cz.set cn[k] true, rfl, by omega, (by have := hcz.step (k := k) (b := true) hlt39 hlt60 hu (by rw [hfk]; exact hck) (by rw [hfk, hfu, gb (by omega)]; first | (simp [hs75]; done) | (simp [hs75]; omega)); rwa [hfk] at this), ⟨rfl, rfl, rfl, rfl, rfl, rfl, rfl, rfl, rfl, rfl, rfl, rfl, rfl, rfl, rfl, rfl, trivial⟩⟩
   refine DO.q rfl (QT.toB (q_move rfl) (Bool.eq_false_iff.2 hs75)) ?_
   refine DO.guarded rfl rfl rfl (q_move rfl) ?_
   refine DO.guarded rfl rfl rfl (q_move rfl) ?_
   refine DO.guarded rfl rfl rfl (q_ix (i := u) Try.underlying22 inf3 rfl rfl (rowO (mG 2 rfl))) ?_
   refine DO.guarded rfl rfl rfl (q_ld Try.underlying3 rfl rfl (rowO (mG 2 rfl)) nats_get) ?_
   refine DO.guarded rfl rfl rfl (q_move rfl) ?_
   refine DO.guarded rfl rfl rfl (q_move rfl) ?_
   refine DO.guarded rfl rfl rfl (q_ix (i := k) Try.underlying22 inf3 rfl rfl (rowO (mG 2 rfl))) ?_
   refine DO.guarded rfl rfl rfl (q_ld Try.underlying3 rfl rfl (rowO (mG 2 rfl)) nats_get) ?_
   refine DO.guarded rfl rfl rfl (q_eql rfl rfl) ?_
   refine DO.q rfl (q_pick0 rfl rfl) (DO.q rfl (q_ix (i := cn[k]) Try.underlying39 inf4 rfl rfl (rowO (mG 0 rfl))) ?_)
   refine DO.last rfl rfl (l_st (j := cn[k]) (v := .bool (decide (((cn[u] : Nat) : Int) = ((cn[k] : Nat) : Int)))) (vs := [(.bool (decide (((cn[u] : Nat) : Int) = ((cn[k] : Nat) : Int))))]) (cs := bools cz) 0 inf4 rfl rfl rfl rfl rfl (by simp) rfl (by first | (simp; omega) | (simp_all; omega)) ?_)
   refine DO.sub (O' := [rowI (aD zA) cnt 4 1 (bools (cz.set cn[k] (decide (((cn[u] : Nat) : Int) = ((cn[k] : Nat) : Int))))), rowI (aD zB) cnt 52 1 (uns (ha.set cn[k] (ha[cn[k]] ||| ms[k]))), rowI cb cc 3 1 (nats cn), oI bx1 79 [(.slice nb nx.length nc), (.slice mb ms.length mc), .int .u64 ((2 ^ m - 1 : Nat) : Int)]]) (by rw [show putL (bools cz) cn[k] [(.bool (decide (((cn[u] : Nat) : Int) = ((cn[k] : Nat) : Int))))] = bools (cz.set cn[k] (decide (((cn[u] : Nat) : Int) = ((cn[k] : Nat) : Int)))) from (by simp [putL])]; exact Sub.of (List.Sublist.refl _)) ?_
   refine DO.done ?_
   refine T.rg (TO.q (q_addN (a := j) (b := 1) rfl rfl (by omega)) (TO.qm rfl (TO.nil ?_)))
   exact ⟨j + 1, by omega, cz.set cn[k] (decide (((cn[u] : Nat) : Int) = ((cn[k] : Nat) : Int))), rfl, by omega, (by have := hcz.step (k := k) (b := (decide (((cn[u] : Nat) : Int) = ((cn[k] : Nat) : Int)))) hlt39 hlt60 hu (by rw [hfk]; exact hck) (by rw [hfk, hfu, gb (by omega)]; first | (simp [hs75]; done) | (simp [hs75]; omega)); rwa [hfk] at this), ⟨rfl, rfl, rfl, rfl, rfl, rfl, rfl, rfl, rfl, rfl, rfl, rfl, rfl, rfl, rfl, rfl, trivial⟩⟩
  have hge60 : ¬ j < nx[k].length := by omega
  refine T.exit ?_
  refine T.rg (TO.q (q_addN (a := k) (b := 1) rfl rfl (by omega)) (TO.qm rfl (TO.nil ?_)))
  exact ⟨k + 1, by omega, cz, ha.set cn[k] (ha[cn[k]] ||| ms[k]), rfl, by omega, hcz.row hlt39 (by omega) hj, (by have := hha.step (k := k) (a := ha[cn[k]] ||| ms[k]) (by rw [hfk]; exact hck) (by rw [gd (by omega)]; exact hmb _ (List.getElem_mem _)) (by rw [hfk, gd (by omega), gd (by omega)]); rwa [hfk] at this), ⟨rfl, rfl, rfl, rfl, rfl, rfl, rfl, rfl, rfl, rfl, rfl, trivial⟩⟩
 have hge39 : ¬ k < nx.length := by omega
 refine T.exit ?_
 refine T.seq (T.rg (TO.qm rfl (TO.l rfl (l_makeSlice (m := cnt) Try.underlying39 inf4 rfl rfl (by omega) (by omega) (fun bx2 => ?_)))))
 refine TO.qa rfl (TO.nil ?_)
 refine T.cut (fun ρ O => ∃ (zL zK : Nat), O = [rowI (aD zL) nx.length 4 1 (List.replicate nx.length (.bool false)), rowI (aD zK) nx.length 4 1 (List.replicate nx.length (.bool false)), rowI (aD bx2) cnt 4 1 (List.replicate cnt (.bool false)), rowI (aD zA) cnt 4 1 (bools cy), rowI (aD zB) cnt 52 1 (uns ha), rowI cb cc 3 1 (nats cn), oI bx1 79 [(.slice nb nx.length nc), (.slice mb ms.length mc), .int .u64 ((2 ^ m - 1 : Nat) : Int)]] ∧ Heads [(0, (.agg #[(.slice nb nx.length nc), (.slice mb ms.length mc), .int .u64 ((2 ^ m - 1 : Nat) : Int)])), (1, (.pointer (aD bx1))), (2, (.slice (aD zL) nx.length nx.length)), (3, (.slice (aD zK) nx.length nx.length)), (4, (.slice cb nx.length cc)), (5, .int .i64 ((cnt : Nat) : Int)), (6, (.slice (aD zA) cnt cnt)), (7, (.slice (aD zB) cnt cnt)), (12, (.slice (aD bx2) cnt cnt))] ρ) ?_ ?_
 ·refine T.tree [oI bx1 79 [(.slice nb nx.length nc), (.slice mb ms.length mc), .int .u64 ((2 ^ m - 1 : Nat) : Int)]] 10 mixed rfl (Sub.pick [4] rfl) (fun _ _ _ h => h) ?_
  refine RO.quietT 0 rfl (by kernel_rfl) (q_fa Try.underlying79 rfl inf24 rfl rfl) ?_
  refine RO.quietT 1 rfl (by kernel_rfl) (q_lb 0 Try.underlying24 rfl rfl rfl rfl) ?_
  refine RO.quietT 2 rfl (by kernel_rfl) (q_len Try.underlying24 rfl) ?_
  refine RO.quietT 4 rfl (by kernel_rfl) (q_fa Try.underlying79 rfl inf24 rfl rfl) ?_
  refine RO.quietT 5 rfl (by kernel_rfl) (q_lb 0 Try.underlying24 rfl rfl rfl rfl) ?_
  refine RO.quietT 6 rfl (by kernel_rfl) (q_len Try.underlying24 rfl) ?_
  refine RO.fork [3, 7] (by kernel_rfl) rfl ⟨⟨_, rfl, rfl, l_makeSlice (m := nx.length) Try.underlying39 inf4 rfl rfl (by omega) (by omega) (fun zL => ⟨Sub.pick [5] rfl, ?_⟩)⟩, ⟨_, rfl, rfl, l_makeSlice (m := nx.length) Try.underlying39 inf4 rfl rfl (by omega) (by omega) (fun zK => ⟨Sub.pick [5] rfl, ?_⟩)⟩, trivial⟩
  ·refine RO.quietT 8 rfl (by kernel_rfl) (q_assign rfl) ?_
   refine RO.fork [7] (by kernel_rfl) rfl ⟨⟨_, rfl, rfl, l_makeSlice (m := nx.length) Try.underlying39 inf4 rfl rfl (by omega) (by omega) (fun zK => ⟨Sub.pick [6] rfl, ?_⟩)⟩, trivial⟩
   refine RO.quietT 9 rfl (by kernel_rfl) (q_assign rfl) ?_
   exact RO.fin (by kernel_rfl) ⟨zL, zK, rfl, ⟨rfl, rfl, rfl, rfl, rfl, rfl, rfl, rfl, rfl, trivial⟩⟩ (Sub.pick [1, 0, 0, 0, 0, 0, 0] rfl)
  refine RO.fork [3] (by kernel_rfl) rfl ⟨⟨_, rfl, rfl, l_makeSlice (m := nx.length) Try.underlying39 inf4 rfl rfl (by omega) (by omega) (fun zL => ⟨Sub.pick [6] rfl, ?_⟩)⟩, trivial⟩
  refine RO.quietT 8 rfl (by kernel_rfl) (q_assign rfl) ?_
  refine RO.quietT 9 rfl (by kernel_rfl) (q_assign rfl) ?_
  exact RO.fin (by kernel_rfl) ⟨zL, zK, rfl, ⟨rfl, rfl, rfl, rfl, rfl, rfl, rfl, rfl, rfl, trivial⟩⟩ (Sub.pick [0, 0, 0, 0, 0, 0, 0] rfl)
 rintro ρ O ⟨zL, zK, rfl, hH⟩
 obtain ⟨ρ0, rfl⟩ := hH.elim
 clear hH
 refine T.seq (T.rg (TO.qm rfl (TO.l rfl (l_makeSlice (m := cnt) Try.underlying24 inf22 rfl rfl (by omega) (by omega) (fun bx3 => ?_)))))
 refine TO.qa rfl (TO.nil (T.seq (T.seq (T.rg (TO.qm rfl (TO.q (q_len Try.underlying22 rfl) (TO.qm rfl (TO.nil (T.block ?_)))))))))
 refine T.nilRows 3 cnt ?_
 refine T.loop (fun (p : Nat) ρ O => ∃ (qs : List Rec), O = ([rowI (aD bx3) cnt 22 1 (vals qs), rowI (aD zL) nx.length 4 1 (List.replicate nx.length (.bool false)), rowI (aD zK) nx.length 4 1 (List.replicate nx.length (.bool false)), rowI (aD bx2) cnt 4 1 (List.replicate cnt (.bool false)), rowI (aD zA) cnt 4 1 (bools cy), rowI (aD zB) cnt 52 1 (uns ha), rowI cb cc 3 1 (nats cn), oI bx1 79 [(.slice nb nx.length nc), (.slice mb ms.length mc), .int .u64 ((2 ^ m - 1 : Nat) : Int)]] ++ (itms 3 qs)) ∧ p ≤ nx.length ∧ OrP nx cn cnt p (nums qs) ∧ Heads [(0, (.agg #[(.slice nb nx.length nc), (.slice mb ms.length mc), .int .u64 ((2 ^ m - 1 : Nat) : Int)])), (1, (.pointer (aD bx1))), (2, (.slice (aD zL) nx.length nx.length)), (3, (.slice (aD zK) nx.length nx.length)), (4, (.slice cb nx.length cc)), (5, .int .i64 ((cnt : Nat) : Int)), (6, (.slice (aD zA) cnt cnt)), (7, (.slice (aD zB) cnt cnt)), (12, (.slice (aD bx2) cnt cnt)), (13, (.slice (aD bx3) cnt cnt)), (101, (.slice cb nx.length cc)), (102, .int .i64 (nx.length : Int)), (103, .int .i64 (p : Int))] ρ) (fun p => nx.length - p) 0 ?_ ?_
 ·exact ⟨List.replicate cnt nilRec, (by simp only [List.map_replicate]; rfl), Nat.zero_le _, (by rw [show nums (List.replicate cnt nilRec) = List.replicate cnt [] by simp [nums]]; exact OrP.start), ⟨rfl, rfl, rfl, rfl, rfl, rfl, rfl, rfl, rfl, rfl, rfl, rfl, rfl, trivial⟩⟩
 rintro p ρ O ⟨qs, rfl, hp, hor, hH⟩
 obtain ⟨ρ0, rfl⟩ := hH.elim
 clear hH
 have hql := hor.ql
 refine T.seq (T.rg (TO.q (q_lss rfl rfl) (TO.nil (T.seq (T.condP rfl (fun hc => ?_) (fun hc => ?_))))))
 ·have hlt104 : p < nx.length := by omega
  have hfk : fn cn p = cn[p] := fn_get (by omega)
  have hck : cn[p] < cnt := by have := (hC.pos p (by omega)).2; have h2 : ((fn cn p : Nat) : Int) < cnt := this; omega
  have hqk : cn[p] < qs.length := by omega
  have hrq := hor.rl hqk
  refine T.skip (T.seq (T.block (T.seq (T.rg (TO.qm rfl (TO.q (q_ix (i := p) Try.underlying22 inf3 rfl rfl (rowO (mG 6 rfl))) (TO.q (q_ld Try.underlying3 rfl rfl (rowO (mG 6 rfl)) nats_get) (TO.qa rfl (TO.qa rfl (TO.nil ?_))))))))))
  refine T.sub (sub_out hqk [rowI (aD bx3) cnt 22 1 (vals qs), rowI (aD zL) nx.length 4 1 (List.replicate nx.length (.bool false)), rowI (aD zK) nx.length 4 1 (List.replicate nx.length (.bool false)), rowI (aD bx2) cnt 4 1 (List.replicate cnt (.bool false)), rowI (aD zA) cnt 4 1 (bools cy), rowI (aD zB) cnt 52 1 (uns ha), rowI cb cc 3 1 (nats cn), oI bx1 79 [(.slice nb nx.length nc), (.slice mb ms.length mc), .int .u64 ((2 ^ m - 1 : Nat) : Int)]]) ?_
  refine T.rg (TO.qm rfl (TO.qm rfl (TO.qm rfl (TO.qm rfl (TO.q (q_ix (i := cn[p]) Try.underlying24 inf22 rfl rfl (rowO (mG 1 rfl))) (TO.q (q_ld Try.underlying22 rfl rfl (rowO (mG 1 rfl)) (vals_at hqk)) (TO.qm rfl (TO.l rfl (l_build1 (v := .int .i64 (p : Int)) Try.underlying22 inf3 rfl rfl rfl (fun bx4 => ?_))))))))))
  refine TO.l rfl (l_append 1 Try.underlying22 Try.underlying22 inf3 rfl rfl rfl rfl (by simp) (by decide) (Src.row (j := 0) rfl (by simp)) (by simp [oneB]) (by omega) (by decide) (by decide) (fun bx5 c6 => ?_))
  refine TO.q (q_ix (i := cn[p]) Try.underlying24 inf22 rfl rfl (rowO (mG 2 rfl))) (TO.l rfl (l_st (j := cn[p]) (v := (.slice bx5 (qs[cn[p]].xs.length + 1) c6)) (vs := [(.slice bx5 (qs[cn[p]].xs.length + 1) c6)]) (cs := vals qs) 2 inf22 rfl rfl rfl rfl rfl (by simp) rfl (by first | (simp; omega) | (simp_all; omega)) ?_))
  refine TO.sub (O' := ([rowI (aD bx4) 1 3 1 [.int .i64 (p : Int)], rowI bx5 c6 3 1 ((ints qs[cn[p]].xs) ++ [.int .i64 (p : Int)]), rowI (aD bx3) cnt 22 1 (vals (qs.set cn[p] ⟨bx5, c6, qs[cn[p]].xs ++ [(p : Int)]⟩)), rowI (aD zL) nx.length 4 1 (List.replicate nx.length (.bool false)), rowI (aD zK) nx.length 4 1 (List.replicate nx.length (.bool false)), rowI (aD bx2) cnt 4 1 (List.replicate cnt (.bool false)), rowI (aD zA) cnt 4 1 (bools cy), rowI (aD zB) cnt 52 1 (uns ha), rowI cb cc 3 1 (nats cn), oI bx1 79 [(.slice nb nx.length nc), (.slice mb ms.length mc), .int .u64 ((2 ^ m - 1 : Nat) : Int)]] ++ (itms 3 (qs.eraseIdx cn[p])))) (by rw [show putL (vals qs) cn[p] [(.slice bx5 (qs[cn[p]].xs.length + 1) c6)] = vals (qs.set cn[p] ⟨bx5, c6, qs[cn[p]].xs ++ [(p : Int)]⟩) from (by simp [putL, Rec.val])]; exact Sub.of (List.Sublist.refl _)) ?_
  refine TO.sub (O' := [rowI bx5 c6 3 1 ((ints qs[cn[p]].xs) ++ [.int .i64 (p : Int)]), rowI (aD bx3) cnt 22 1 (vals (qs.set cn[p] ⟨bx5, c6, qs[cn[p]].xs ++ [(p : Int)]⟩)), rowI (aD zL) nx.length 4 1 (List.replicate nx.length (.bool false)), rowI (aD zK) nx.length 4 1 (List.replicate nx.length (.bool false)), rowI (aD bx2) cnt 4 1 (List.replicate cnt (.bool false)), rowI (aD zA) cnt 4 1 (bools cy), rowI (aD zB) cnt 52 1 (uns ha), rowI cb cc 3 1 (nats cn), oI bx1 79 [(.slice nb nx.length nc), (.slice mb ms.length mc), .int .u64 ((2 ^ m - 1 : Nat) : Int)]] ++ (itms 3 (qs.eraseIdx cn[p]))) (Sub.pickR [1, 1, 1, 1, 1, 1, 1, 1, 1] [rowI (aD bx4) 1 3 1 [.int .i64 (p : Int)], rowI bx5 c6 3 1 ((ints qs[cn[p]].xs) ++ [.int .i64 (p : Int)]), rowI (aD bx3) cnt 22 1 (vals (qs.set cn[p] ⟨bx5, c6, qs[cn[p]].xs ++ [(p : Int)]⟩)), rowI (aD zL) nx.length 4 1 (List.replicate nx.length (.bool false)), rowI (aD zK) nx.length 4 1 (List.replicate nx.length (.bool false)), rowI (aD bx2) cnt 4 1 (List.replicate cnt (.bool false)), rowI (aD zA) cnt 4 1 (bools cy), rowI (aD zB) cnt 52 1 (uns ha), rowI cb cc 3 1 (nats cn), oI bx1 79 [(.slice nb nx.length nc), (.slice mb ms.length mc), .int .u64 ((2 ^ m - 1 : Nat) : Int)]] (itms 3 (qs.eraseIdx cn[p])) rfl rfl) ?_
  refine TO.sub (O' := [rowI (aD bx3) cnt 22 1 (vals (qs.set cn[p] ⟨bx5, c6, qs[cn[p]].xs ++ [(p : Int)]⟩)), rowI (aD zL) nx.length 4 1 (List.replicate nx.length (.bool false)), rowI (aD zK) nx.length 4 1 (List.replicate nx.length (.bool false)), rowI (aD bx2) cnt 4 1 (List.replicate cnt (.bool false)), rowI (aD zA) cnt 4 1 (bools cy), rowI (aD zB) cnt 52 1 (uns ha), rowI cb cc 3 1 (nats cn), oI bx1 79 [(.slice nb nx.length nc), (.slice mb ms.length mc), .int .u64 ((2 ^ m - 1 : Nat) : Int)]] ++ (itms 3 (qs.set cn[p] ⟨bx5, c6, qs[cn[p]].xs ++ [(p : Int)]⟩))) (sub_in hqk [rowI (aD bx3) cnt 22 1 (vals (qs.set cn[p] ⟨bx5, c6, qs[cn[p]].xs ++ [(p : Int)]⟩)), rowI (aD zL) nx.length 4 1 (List.replicate nx.length (.bool false)), rowI (aD zK) nx.length 4 1 (List.replicate nx.length (.bool false)), rowI (aD bx2) cnt 4 1 (List.replicate cnt (.bool false)), rowI (aD zA) cnt 4 1 (bools cy), rowI (aD zB) cnt 52 1 (uns ha), rowI cb cc 3 1 (nats cn), oI bx1 79 [(.slice nb nx.length nc), (.slice mb ms.length mc), .int .u64 ((2 ^ m - 1 : Nat) : Int)]] ⟨bx5, c6, qs[cn[p]].xs ++ [(p : Int)]⟩ (by simp)) ?_
  refine TO.nil (T.rg (TO.q (q_addN (a := p) (b := 1) rfl rfl (by omega)) (TO.qm rfl (TO.nil ?_))))
  exact ⟨p + 1, by omega, qs.set cn[p] ⟨bx5, c6, qs[cn[p]].xs ++ [(p : Int)]⟩, rfl, by omega, hor.push (by omega) hck _ _, ⟨rfl, rfl, rfl, rfl, rfl, rfl, rfl, rfl, rfl, rfl, rfl, rfl, rfl, trivial⟩⟩
 have hge104 : ¬ p < nx.length := by omega
 refine T.exit ?_
 refine T.seq (T.seq (T.rg (TO.qm rfl (TO.q (q_len Try.underlying24 rfl) (TO.qm rfl (TO.nil (T.block ?_)))))))
 have hql := hor.ql
 have hor9 : OrP nx cn cnt nx.length (nums qs) := (show p = nx.length by omega) ▸ hor
 have hcy9 : CyP nx cn cnt nx.length 0 cy := (show k = nx.length by omega) ▸ hcy
 have hha9 : HaP nx ms cn m cnt nx.length ha := (show k = nx.length by omega) ▸ hha
 refine T.loop (fun (c : Nat) ρ O => ∃ (gs ls co : List Bool), O = ([rowI (aD bx3) cnt 22 1 (vals qs), rowI (aD zL) nx.length 4 1 (bools ls), rowI (aD zK) nx.length 4 1 (bools co), rowI (aD bx2) cnt 4 1 (bools gs), rowI (aD zA) cnt 4 1 (bools cy), rowI (aD zB) cnt 52 1 (uns ha), rowI cb cc 3 1 (nats cn), oI bx1 79 [(.slice nb nx.length nc), (.slice mb ms.length mc), .int .u64 ((2 ^ m - 1 : Nat) : Int)]] ++ (itms 3 qs)) ∧ c ≤ cnt ∧ LvP nx ms m cn cnt c gs ls co ∧ Heads [(0, (.agg #[(.slice nb nx.length nc), (.slice mb ms.length mc), .int .u64 ((2 ^ m - 1 : Nat) : Int)])), (1, (.pointer (aD bx1))), (2, (.slice (aD zL) nx.length nx.length)), (3, (.slice (aD zK) nx.length nx.length)), (4, (.slice cb nx.length cc)), (5, .int .i64 ((cnt : Nat) : Int)), (6, (.slice (aD zA) cnt cnt)), (7, (.slice (aD zB) cnt cnt)), (12, (.slice (aD bx2) cnt cnt)), (13, (.slice (aD bx3) cnt cnt)), (119, (.slice (aD bx3) cnt cnt)), (120, .int .i64 (cnt : Int)), (121, .int .i64 (c : Int))] ρ) (fun c => cnt - c) 0 ?_ ?_
 ·exact ⟨List.replicate cnt false, List.replicate nx.length false, List.replicate nx.length false, (by first | (simp only [List.map_replicate]; done) | (simp only [List.map_replicate]; rfl)), Nat.zero_le _, LvP.start (by simp) (by simp) (by simp), ⟨rfl, rfl, rfl, rfl, rfl, rfl, rfl, rfl, rfl, rfl, rfl, rfl, rfl, trivial⟩⟩
 rintro c ρ O ⟨gs, ls, co, rfl, hc9, hlv, hH⟩
 obtain ⟨ρ0, rfl⟩ := hH.elim
 clear hH
 have hgl := hlv.lg; have hll := hlv.ll; have hcl2 := hlv.lc
 refine T.seq (T.rg (TO.q (q_lss rfl rfl) (TO.nil (T.seq (T.condP rfl (fun hc => ?_) (fun hc => ?_))))))
 ·have hlt122 : c < cnt := by omega
  have hqc : c < qs.length := by omega
  have hrq := hor9.rl hqc
  refine T.skip (T.seq (T.block (T.seq (T.rg (TO.qm rfl (TO.q (q_ix (i := c) Try.underlying24 inf22 rfl rfl (rowO (mG 0 rfl))) (TO.q (q_ld Try.underlying22 rfl rfl (rowO (mG 0 rfl)) (vals_at hqc)) (TO.qa rfl (TO.qa rfl (TO.nil (T.seq ?_)))))))))))
  refine T.draws _ [(0, 0), (1, 0), (2, 0), (3, 0), (4, 0), (5, 0), (6, 0), (7, 0), (8, 0), (9, 0), (10, 0), (11, 0), (12, 0), (13, 0), (14, 0), (15, 0), (16, 2)] mixed (by kernel_rfl) (Sub.of (List.Sublist.refl _)) (fun _ _ _ h => h) ?_
  refine DO.q rfl (q_move rfl) (DO.q rfl (q_move rfl) (DO.q rfl (q_move rfl) (DO.q rfl (q_move rfl) (DO.q rfl (q_ix (i := c) Try.underlying39 inf4 rfl rfl (rowO (mG 4 rfl))) (DO.q rfl (q_ld Try.underlying4 rfl rfl (rowO (mG 4 rfl)) bools_get) ?_)))))
  by_cases hs132 : cy[c] = true
  ·refine DO.q rfl (QT.toB (q_move rfl) (hs132)) ?_
   refine DO.guarded rfl rfl rfl (q_move rfl) ?_
   refine DO.guarded rfl rfl rfl (q_move rfl) ?_
   refine DO.guarded rfl rfl rfl (q_ix (i := c) Try.underlying77 inf52 rfl rfl (rowO (mG 5 rfl))) ?_
   refine DO.guarded rfl rfl rfl (q_ld Try.underlying52 rfl rfl (rowO (mG 5 rfl)) uns_get) ?_
   refine DO.guarded rfl rfl rfl (q_fa Try.underlying79 rfl inf52 rfl rfl) ?_
   refine DO.guarded rfl rfl rfl (q_lb 7 Try.underlying52 rfl rfl rfl rfl) ?_
   refine DO.guarded rfl rfl rfl (q_eql rfl rfl) ?_
   refine DO.q rfl (q_pick1 rfl rfl) (DO.q rfl (q_ix (i := c) Try.underlying39 inf4 rfl rfl (rowO (mG 3 rfl))) ?_)
   refine DO.last rfl rfl (l_st (j := c) (v := .bool (decide (((ha[c] : Nat) : Int) = ((2 ^ m - 1 : Nat) : Int)))) (vs := [(.bool (decide (((ha[c] : Nat) : Int) = ((2 ^ m - 1 : Nat) : Int))))]) (cs := bools gs) 3 inf4 rfl rfl rfl rfl rfl (by simp) rfl (by first | (simp; omega) | (simp_all; omega)) ?_)
   refine DO.sub (O' := ([rowI (aD bx3) cnt 22 1 (vals qs), rowI (aD zL) nx.length 4 1 (bools ls), rowI (aD zK) nx.length 4 1 (bools co), rowI (aD bx2) cnt 4 1 (bools (gs.set c ((decide (((ha[c] : Nat) : Int) = ((2 ^ m - 1 : Nat) : Int)))))), rowI (aD zA) cnt 4 1 (bools cy), rowI (aD zB) cnt 52 1 (uns ha), rowI cb cc 3 1 (nats cn), oI bx1 79 [(.slice nb nx.length nc), (.slice mb ms.length mc), .int .u64 ((2 ^ m - 1 : Nat) : Int)]] ++ (itms 3 qs))) (by rw [show putL (bools gs) c [(.bool (decide (((ha[c] : Nat) : Int) = ((2 ^ m - 1 : Nat) : Int))))] = bools (gs.set c ((decide (((ha[c] : Nat) : Int) = ((2 ^ m - 1 : Nat) : Int))))) from (by simp [putL])]; exact Sub.of (List.Sublist.refl _)) ?_
   refine DO.done ?_
   refine T.seq (T.seq (T.rg (TO.qm rfl (TO.q (q_len Try.underlying22 rfl) (TO.qm rfl (TO.nil (T.block ?_)))))))
   have hbeg : LvC nx ms m cn cnt c qs[c].xs 0 (gs.set c ((decide (((ha[c] : Nat) : Int) = ((2 ^ m - 1 : Nat) : Int))))) ls co := hlv.begin hlt122 (fun v hv e => by
    rw [show Cor nx ms m v = Core (adjE nx) m (mkM nx ms) v from rfl, ← core_iff hC hval hcy9 hha9 hv e, gb (by omega), gd (by omega)]
    simp only [hs132, true_and, decide_eq_true_eq, Int.natCast_inj])
   refine T.loop (fun (j : Nat) ρ O => ∃ (co5 : List Bool), O = ([rowI (aD bx3) cnt 22 1 (vals qs), rowI (aD zL) nx.length 4 1 (bools ls), rowI (aD zK) nx.length 4 1 (bools co5), rowI (aD bx2) cnt 4 1 (bools (gs.set c ((decide (((ha[c] : Nat) : Int) = ((2 ^ m - 1 : Nat) : Int)))))), rowI (aD zA) cnt 4 1 (bools cy), rowI (aD zB) cnt 52 1 (uns ha), rowI cb cc 3 1 (nats cn), oI bx1 79 [(.slice nb nx.length nc), (.slice mb ms.length mc), .int .u64 ((2 ^ m - 1 : Nat) : Int)]] ++ (itms 3 qs)) ∧ j ≤ qs[c].xs.length ∧ LvC nx ms m cn cnt c qs[c].xs j (gs.set c ((decide (((ha[c] : Nat) : Int) = ((2 ^ m - 1 : Nat) : Int))))) ls co5 ∧ Heads [(0, (.agg #[(.slice nb nx.length nc), (.slice mb ms.length mc), .int .u64 ((2 ^ m - 1 : Nat) : Int)])), (1, (.pointer (aD bx1))), (2, (.slice (aD zL) nx.length nx.length)), (3, (.slice (aD zK) nx.length nx.length)), (4, (.slice cb nx.length cc)), (5, .int .i64 ((cnt : Nat) : Int)), (6, (.slice (aD zA) cnt cnt)), (7, (.slice (aD zB) cnt cnt)), (12, (.slice (aD bx2) cnt cnt)), (13, (.slice (aD bx3) cnt cnt)), (16, .int .i64 (c : Int)), (17, (.slice qs[c].b qs[c].xs.length qs[c].c)), (119, (.slice (aD bx3) cnt cnt)), (120, .int .i64 (cnt : Int)), (121, .int .i64 (c : Int)), (142, (.slice qs[c].b qs[c].xs.length qs[c].c)), (143, .int .i64 (qs[c].xs.length : Int)), (144, .int .i64 (j : Int))] ρ) (fun j => qs[c].xs.length - j) 0 ?_ ?_
   ·exact ⟨co, rfl, Nat.zero_le _, hbeg, ⟨rfl, rfl, rfl, rfl, rfl, rfl, rfl, rfl, rfl, rfl, rfl, rfl, rfl, rfl, rfl, rfl, rfl, rfl, trivial⟩⟩
   rintro j ρ O ⟨co5, rfl, hj, hlv5, hH⟩
   obtain ⟨ρ0, rfl⟩ := hH.elim
   clear hH
   have hcl2 := hlv5.lc
   refine T.seq (T.rg (TO.q (q_lss rfl rfl) (TO.nil (T.seq (T.condP rfl (fun hc => ?_) (fun hc => ?_))))))
   ·have hlt145 : j < qs[c].xs.length := by omega
    obtain ⟨x, hx, hxl, hxc⟩ := hor9.at hqc hlt145
    refine T.skip (T.seq (T.block (T.seq (T.rg (TO.q (q_ix (i := j) Try.underlying22 inf3 rfl rfl (rowO (itms_at hqc))) (TO.q (q_ld Try.underlying3 rfl rfl (rowO (itms_at hqc)) (show (ints qs[c].xs)[j]? = _ by rw [ints_get hlt145, hx])) (TO.qa rfl (TO.nil (T.rg (TO.qm rfl (TO.qm rfl (TO.qm rfl (TO.qm rfl ?_)))))))))))))
    refine TO.q (q_ix (i := c) Try.underlying39 inf4 rfl rfl (rowO (mG 3 rfl))) (TO.q (q_ld Try.underlying4 rfl rfl (rowO (mG 3 rfl)) (show (bools (gs.set c ((decide (((ha[c] : Nat) : Int) = ((2 ^ m - 1 : Nat) : Int))))))[c]? = some (.bool ((decide (((ha[c] : Nat) : Int) = ((2 ^ m - 1 : Nat) : Int))))) by rw [List.getElem?_map, List.getElem?_set_self (by omega)]; rfl)) (TO.q (q_ix (i := x) Try.underlying39 inf4 rfl rfl (rowO (mG 2 rfl))) ?_))
    refine TO.l rfl (l_st (j := x) (v := .bool ((decide (((ha[c] : Nat) : Int) = ((2 ^ m - 1 : Nat) : Int))))) (vs := [(.bool ((decide (((ha[c] : Nat) : Int) = ((2 ^ m - 1 : Nat) : Int)))))]) (cs := bools co5) 2 inf4 rfl rfl rfl rfl rfl (by simp) rfl (by first | (simp; omega) | (simp_all; omega)) ?_)
    refine TO.sub (O' := ([rowI (aD bx3) cnt 22 1 (vals qs), rowI (aD zL) nx.length 4 1 (bools ls), rowI (aD zK) nx.length 4 1 (bools (co5.set x ((decide (((ha[c] : Nat) : Int) = ((2 ^ m - 1 : Nat) : Int)))))), rowI (aD bx2) cnt 4 1 (bools (gs.set c ((decide (((ha[c] : Nat) : Int) = ((2 ^ m - 1 : Nat) : Int)))))), rowI (aD zA) cnt 4 1 (bools cy), rowI (aD zB) cnt 52 1 (uns ha), rowI cb cc 3 1 (nats cn), oI bx1 79 [(.slice nb nx.length nc), (.slice mb ms.length mc), .int .u64 ((2 ^ m - 1 : Nat) : Int)]] ++ (itms 3 qs))) (by rw [show putL (bools co5) x [(.bool ((decide (((ha[c] : Nat) : Int) = ((2 ^ m - 1 : Nat) : Int)))))] = bools (co5.set x ((decide (((ha[c] : Nat) : Int) = ((2 ^ m - 1 : Nat) : Int))))) from (by simp [putL])]; exact Sub.of (List.Sublist.refl _)) ?_
    refine TO.nil (T.rg (TO.q (q_addN (a := j) (b := 1) rfl rfl (by omega)) (TO.qm rfl (TO.nil ?_))))
    exact ⟨j + 1, by omega, co5.set x ((decide (((ha[c] : Nat) : Int) = ((2 ^ m - 1 : Nat) : Int)))), rfl, by omega, hlv5.coreStep hlt145 hx hxl hxc (by rw [getB_set (by omega), if_pos rfl]), ⟨rfl, rfl, rfl, rfl, rfl, rfl, rfl, rfl, rfl, rfl, rfl, rfl, rfl, rfl, rfl, rfl, rfl, rfl, trivial⟩⟩
   have hge145 : ¬ j < qs[c].xs.length := by omega
   refine T.exit ?_
   refine T.seq (T.seq (T.rg (TO.qm rfl (TO.q (q_len Try.underlying22 rfl) (TO.qm rfl (TO.nil (T.block ?_)))))))
   refine T.loop (fun (j : Nat) ρ O => ∃ (gs6 : List Bool), O = ([rowI (aD bx3) cnt 22 1 (vals qs), rowI (aD zL) nx.length 4 1 (bools ls), rowI (aD zK) nx.length 4 1 (bools co5), rowI (aD bx2) cnt 4 1 (bools gs6), rowI (aD zA) cnt 4 1 (bools cy), rowI (aD zB) cnt 52 1 (uns ha), rowI cb cc 3 1 (nats cn), oI bx1 79 [(.slice nb nx.length nc), (.slice mb ms.length mc), .int .u64 ((2 ^ m - 1 : Nat) : Int)]] ++ (itms 3 qs)) ∧ j ≤ qs[c].xs.length ∧ LvD nx ms m cn cnt c qs[c].xs j 0 gs6 ls co5 ∧ Heads [(0, (.agg #[(.slice nb nx.length nc), (.slice mb ms.length mc), .int .u64 ((2 ^ m - 1 : Nat) : Int)])), (1, (.pointer (aD bx1))), (2, (.slice (aD zL) nx.length nx.length)), (3, (.slice (aD zK) nx.length nx.length)), (4, (.slice cb nx.length cc)), (5, .int .i64 ((cnt : Nat) : Int)), (6, (.slice (aD zA) cnt cnt)), (7, (.slice (aD zB) cnt cnt)), (12, (.slice (aD bx2) cnt cnt)), (13, (.slice (aD bx3) cnt cnt)), (16, .int .i64 (c : Int)), (17, (.slice qs[c].b qs[c].xs.length qs[c].c)), (119, (.slice (aD bx3) cnt cnt)), (120, .int .i64 (cnt : Int)), (121, .int .i64 (c : Int)), (156, (.slice qs[c].b qs[c].xs.length qs[c].c)), (157, .int .i64 (qs[c].xs.length : Int)), (158, .int .i64 (j : Int))] ρ) (fun j => qs[c].xs.length - j) 0 ?_ ?_
   ·exact ⟨_, rfl, Nat.zero_le _, hlv5.toD (by omega) (hor9.all hqc), ⟨rfl, rfl, rfl, rfl, rfl, rfl, rfl, rfl, rfl, rfl, rfl, rfl, rfl, rfl, rfl, rfl, rfl, rfl, trivial⟩⟩
   rintro j ρ O ⟨gs6, rfl, hj6, hlv6, hH⟩
   obtain ⟨ρ0, rfl⟩ := hH.elim
   clear hH
   refine T.seq (T.rg (TO.q (q_lss rfl rfl) (TO.nil (T.seq (T.condP rfl (fun hc => ?_) (fun hc => ?_))))))
   ·have hlt159 : j < qs[c].xs.length := by omega
    obtain ⟨x, hx, hxl, hxc⟩ := hor9.at hqc hlt159
    obtain ⟨rb2, rc2, g2, s2⟩ := hR.get hxl
    have hrx := hrl _ (List.getElem_mem hxl)
    refine T.skip (T.seq (T.block (T.seq (T.rg (TO.q (q_ix (i := j) Try.underlying22 inf3 rfl rfl (rowO (itms_at hqc))) (TO.q (q_ld Try.underlying3 rfl rfl (rowO (itms_at hqc)) (show (ints qs[c].xs)[j]? = _ by rw [ints_get hlt159, hx])) (TO.qa rfl (TO.nil (T.seq (T.rg (TO.q (q_fa Try.underlying79 rfl inf24 rfl rfl) (TO.q (q_lb 7 Try.underlying24 rfl rfl rfl rfl) (TO.qm rfl (TO.q (q_ix (i := x) Try.underlying24 inf22 rfl rfl (Sl.o hS) (by first | assumption | omega | (simp; omega) | simp_all) (by rw [hR.1]; exact hxl)) (TO.q (q_ld Try.underlying22 rfl rfl (Sl.o hS) g2) (TO.q (q_len Try.underlying22 rfl) (TO.qm rfl (TO.nil (T.block ?_)))))))))))))))))))
    refine T.loop (fun (i : Nat) ρ O => ∃ (gs7 : List Bool), O = ([rowI (aD bx3) cnt 22 1 (vals qs), rowI (aD zL) nx.length 4 1 (bools ls), rowI (aD zK) nx.length 4 1 (bools co5), rowI (aD bx2) cnt 4 1 (bools gs7), rowI (aD zA) cnt 4 1 (bools cy), rowI (aD zB) cnt 52 1 (uns ha), rowI cb cc 3 1 (nats cn), oI bx1 79 [(.slice nb nx.length nc), (.slice mb ms.length mc), .int .u64 ((2 ^ m - 1 : Nat) : Int)]] ++ (itms 3 qs)) ∧ i ≤ nx[x].length ∧ LvD nx ms m cn cnt c qs[c].xs j i gs7 ls co5 ∧ Heads [(0, (.agg #[(.slice nb nx.length nc), (.slice mb ms.length mc), .int .u64 ((2 ^ m - 1 : Nat) : Int)])), (1, (.pointer (aD bx1))), (2, (.slice (aD zL) nx.length nx.length)), (3, (.slice (aD zK) nx.length nx.length)), (4, (.slice cb nx.length cc)), (5, .int .i64 ((cnt : Nat) : Int)), (6, (.slice (aD zA) cnt cnt)), (7, (.slice (aD zB) cnt cnt)), (12, (.slice (aD bx2) cnt cnt)), (13, (.slice (aD bx3) cnt cnt)), (16, .int .i64 (c : Int)), (17, (.slice qs[c].b qs[c].xs.length qs[c].c)), (21, .int .i64 ((x : Nat) : Int)), (119, (.slice (aD bx3) cnt cnt)), (120, .int .i64 (cnt : Int)), (121, .int .i64 (c : Int)), (156, (.slice qs[c].b qs[c].xs.length qs[c].c)), (157, .int .i64 (qs[c].xs.length : Int)), (158, .int .i64 (j : Int)), (166, (.slice rb2 nx[x].length rc2)), (167, .int .i64 (nx[x].length : Int)), (168, .int .i64 (i : Int))] ρ) (fun i => nx[x].length - i) 0 ?_ ?_
    ·exact ⟨gs6, rfl, Nat.zero_le _, hlv6, ⟨rfl, rfl, rfl, rfl, rfl, rfl, rfl, rfl, rfl, rfl, rfl, rfl, rfl, rfl, rfl, rfl, rfl, rfl, rfl, rfl, rfl, rfl, trivial⟩⟩
    rintro i ρ O ⟨gs7, rfl, hi, hlv7, hH⟩
    obtain ⟨ρ0, rfl⟩ := hH.elim
    clear hH
    have hgl7 := hlv7.lg
    refine T.seq (T.rg (TO.q (q_lss rfl rfl) (TO.nil (T.seq (T.condP rfl (fun hc => ?_) (fun hc => ?_))))))
    ·have hlt169 : i < nx[x].length := by omega
     obtain ⟨u, hu, hul⟩ : ∃ u : Nat, nx[x][i] = (u : Int) ∧ u < nx.length := by
      have := hval _ (List.getElem_mem hxl) _ (List.getElem_mem hlt169)
      exact ⟨nx[x][i].toNat, by omega, by omega⟩
     have hfu : fn cn u = cn[u] := fn_get (by omega)
     have hcu : cn[u] < cnt := by have := (hC.pos u hul).2; have h2 : ((fn cn u : Nat) : Int) < cnt := this; omega
     refine T.skip (T.seq (T.block (T.seq (T.rg (TO.q (q_ix (i := i) Try.underlying22 inf3 rfl rfl (Sl.o s2)) (TO.q (q_ld Try.underlying3 rfl rfl (Sl.o s2) (show (ints nx[x])[i]? = _ by rw [ints_get hlt169, hu])) (TO.qa rfl (TO.nil (T.rg (TO.qm rfl (TO.qm rfl (TO.qm rfl (TO.qm rfl (TO.q (q_ix (i := c) Try.underlying39 inf4 rfl rfl (rowO (mG 3 rfl))) (TO.q (q_ld Try.underlying4 rfl rfl (rowO (mG 3 rfl)) bools_get) ?_)))))))))))))))
     by_cases hs178 : gs7[c] = true
     ·refine TO.q (QT.toB (q_move rfl) (hs178)) ?_
      refine TO.pd rfl rfl (TO.pd rfl rfl (TO.pd rfl rfl (TO.pd rfl rfl (TO.pd rfl rfl (TO.pd rfl rfl (TO.pd rfl rfl (TO.q (q_pick1 rfl rfl) (TO.q (q_ix (i := c) Try.underlying39 inf4 rfl rfl (rowO (mG 3 rfl))) (TO.l rfl (l_st (j := c) (v := .bool true) (vs := [(.bool true)]) (cs := bools gs7) 3 inf4 rfl rfl rfl rfl rfl (by simp) rfl (by first | (simp; omega) | (simp_all; omega)) ?_))))))))))
      refine TO.sub (O' := ([rowI (aD bx3) cnt 22 1 (vals qs), rowI (aD zL) nx.length 4 1 (bools ls), rowI (aD zK) nx.length 4 1 (bools co5), rowI (aD bx2) cnt 4 1 (bools (gs7.set c true)), rowI (aD zA) cnt 4 1 (bools cy), rowI (aD zB) cnt 52 1 (uns ha), rowI cb cc 3 1 (nats cn), oI bx1 79 [(.slice nb nx.length nc), (.slice mb ms.length mc), .int .u64 ((2 ^ m - 1 : Nat) : Int)]] ++ (itms 3 qs))) (by rw [show putL (bools gs7) c [(.bool true)] = bools (gs7.set c true) from (by simp [putL])]; exact Sub.of (List.Sublist.refl _)) ?_
      refine TO.nil (T.rg (TO.q (q_addN (a := i) (b := 1) rfl rfl (by omega)) (TO.qm rfl (TO.nil ?_))))
      exact ⟨i + 1, by omega, gs7.set c true, rfl, by omega, hlv7.step hC hval hlt122 hlt159 hx hxl hxc hlt169 hu (by rw [gb (by omega), gb (by rw [hfu]; omega)]; simp only [hfu]; simp [hs178]), ⟨rfl, rfl, rfl, rfl, rfl, rfl, rfl, rfl, rfl, rfl, rfl, rfl, rfl, rfl, rfl, rfl, rfl, rfl, rfl, rfl, rfl, rfl, trivial⟩⟩
     refine TO.q (QT.toB (q_move rfl) (Bool.eq_false_iff.2 hs178)) (TO.gq rfl rfl (q_move rfl) (TO.gq rfl rfl (q_move rfl) (TO.gq rfl rfl (q_move rfl) (TO.gq rfl rfl (q_ix (i := u) Try.underlying22 inf3 rfl rfl (rowO (mG 6 rfl))) (TO.gq rfl rfl (q_ld Try.underlying3 rfl rfl (rowO (mG 6 rfl)) nats_get) (TO.gq rfl rfl (q_ix (i := cn[u]) Try.underlying39 inf4 rfl rfl (rowO (mG 3 rfl))) (TO.gq rfl rfl (q_ld Try.underlying4 rfl rfl (rowO (mG 3 rfl)) bools_get) ?_)))))))
     refine TO.q (q_pick0 rfl rfl) (TO.q (q_ix (i := c) Try.underlying39 inf4 rfl rfl (rowO (mG 3 rfl))) (TO.l rfl (l_st (j := c) (v := .bool gs7[cn[u]]) (vs := [(.bool gs7[cn[u]])]) (cs := bools gs7) 3 inf4 rfl rfl rfl rfl rfl (by simp) rfl (by first | (simp; omega) | (simp_all; omega)) ?_)))
     refine TO.sub (O' := ([rowI (aD bx3) cnt 22 1 (vals qs), rowI (aD zL) nx.length 4 1 (bools ls), rowI (aD zK) nx.length 4 1 (bools co5), rowI (aD bx2) cnt 4 1 (bools (gs7.set c gs7[cn[u]])), rowI (aD zA) cnt 4 1 (bools cy), rowI (aD zB) cnt 52 1 (uns ha), rowI cb cc 3 1 (nats cn), oI bx1 79 [(.slice nb nx.length nc), (.slice mb ms.length mc), .int .u64 ((2 ^ m - 1 : Nat) : Int)]] ++ (itms 3 qs))) (by rw [show putL (bools gs7) c [(.bool gs7[cn[u]])] = bools (gs7.set c gs7[cn[u]]) from (by simp [putL])]; exact Sub.of (List.Sublist.refl _)) ?_
     refine TO.nil (T.rg (TO.q (q_addN (a := i) (b := 1) rfl rfl (by omega)) (TO.qm rfl (TO.nil ?_))))
     exact ⟨i + 1, by omega, gs7.set c gs7[cn[u]], rfl, by omega, hlv7.step hC hval hlt122 hlt159 hx hxl hxc hlt169 hu (by rw [gb (by omega), gb (by rw [hfu]; omega)]; simp only [hfu]; simp [hs178]), ⟨rfl, rfl, rfl, rfl, rfl, rfl, rfl, rfl, rfl, rfl, rfl, rfl, rfl, rfl, rfl, rfl, rfl, rfl, rfl, rfl, rfl, rfl, trivial⟩⟩
    have hge169 : ¬ i < nx[x].length := by omega
    refine T.exit ?_
    refine T.rg (TO.q (q_addN (a := j) (b := 1) rfl rfl (by omega)) (TO.qm rfl (TO.nil ?_)))
    exact ⟨j + 1, by omega, gs7, rfl, by omega, hlv7.next hlt159 hx hxl (by omega), ⟨rfl, rfl, rfl, rfl, rfl, rfl, rfl, rfl, rfl, rfl, rfl, rfl, rfl, rfl, rfl, rfl, rfl, rfl, trivial⟩⟩
   have hge159 : ¬ j < qs[c].xs.length := by omega
   refine T.exit ?_
   refine T.seq (T.rg (TO.qm rfl (TO.q (q_len Try.underlying22 rfl) (TO.qm rfl (TO.nil (T.block ?_))))))
   refine T.loop (fun (j : Nat) ρ O => ∃ (ls8 : List Bool), O = ([rowI (aD bx3) cnt 22 1 (vals qs), rowI (aD zL) nx.length 4 1 (bools ls8), rowI (aD zK) nx.length 4 1 (bools co5), rowI (aD bx2) cnt 4 1 (bools gs6), rowI (aD zA) cnt 4 1 (bools cy), rowI (aD zB) cnt 52 1 (uns ha), rowI cb cc 3 1 (nats cn), oI bx1 79 [(.slice nb nx.length nc), (.slice mb ms.length mc), .int .u64 ((2 ^ m - 1 : Nat) : Int)]] ++ (itms 3 qs)) ∧ j ≤ qs[c].xs.length ∧ LvE nx ms m cn cnt c qs[c].xs j gs6 ls8 co5 ∧ Heads [(0, (.agg #[(.slice nb nx.length nc), (.slice mb ms.length mc), .int .u64 ((2 ^ m - 1 : Nat) : Int)])), (1, (.pointer (aD bx1))), (2, (.slice (aD zL) nx.length nx.length)), (3, (.slice (aD zK) nx.length nx.length)), (4, (.slice cb nx.length cc)), (5, .int .i64 ((cnt : Nat) : Int)), (6, (.slice (aD zA) cnt cnt)), (7, (.slice (aD zB) cnt cnt)), (12, (.slice (aD bx2) cnt cnt)), (13, (.slice (aD bx3) cnt cnt)), (16, .int .i64 (c : Int)), (17, (.slice qs[c].b qs[c].xs.length qs[c].c)), (119, (.slice (aD bx3) cnt cnt)), (120, .int .i64 (cnt : Int)), (121, .int .i64 (c : Int)), (190, (.slice qs[c].b qs[c].xs.length qs[c].c)), (191, .int .i64 (qs[c].xs.length : Int)), (192, .int .i64 (j : Int))] ρ) (fun j => qs[c].xs.length - j) 0 ?_ ?_
   ·exact ⟨ls, rfl, Nat.zero_le _, hlv6.toE hC hval (by omega) (hor9.all hqc), ⟨rfl, rfl, rfl, rfl, rfl, rfl, rfl, rfl, rfl, rfl, rfl, rfl, rfl, rfl, rfl, rfl, rfl, rfl, trivial⟩⟩
   rintro j ρ O ⟨ls8, rfl, hj8, hlv8, hH⟩
   obtain ⟨ρ0, rfl⟩ := hH.elim
   clear hH
   have hll8 := hlv8.ll; have hgl8 := hlv8.lg
   refine T.seq (T.rg (TO.q (q_lss rfl rfl) (TO.nil (T.seq (T.condP rfl (fun hc => ?_) (fun hc => ?_))))))
   ·have hlt193 : j < qs[c].xs.length := by omega
    obtain ⟨x, hx, hxl, hxc⟩ := hor9.at hqc hlt193
    refine T.skip (T.seq (T.block (T.seq (T.rg (TO.q (q_ix (i := j) Try.underlying22 inf3 rfl rfl (rowO (itms_at hqc))) (TO.q (q_ld Try.underlying3 rfl rfl (rowO (itms_at hqc)) (show (ints qs[c].xs)[j]? = _ by rw [ints_get hlt193, hx])) (TO.qa rfl (TO.nil (T.rg (TO.qm rfl (TO.qm rfl (TO.qm rfl (TO.qm rfl (TO.q (q_ix (i := c) Try.underlying39 inf4 rfl rfl (rowO (mG 3 rfl))) (TO.q (q_ld Try.underlying4 rfl rfl (rowO (mG 3 rfl)) bools_get) (TO.q (q_ix (i := x) Try.underlying39 inf4 rfl rfl (rowO (mG 1 rfl))) (TO.l rfl (l_st (j := x) (v := .bool gs6[c]) (vs := [(.bool gs6[c])]) (cs := bools ls8) 1 inf4 rfl rfl rfl rfl rfl (by simp) rfl (by first | (simp; omega) | (simp_all; omega)) ?_))))))))))))))))))
    refine TO.sub (O' := ([rowI (aD bx3) cnt 22 1 (vals qs), rowI (aD zL) nx.length 4 1 (bools (ls8.set x gs6[c])), rowI (aD zK) nx.length 4 1 (bools co5), rowI (aD bx2) cnt 4 1 (bools gs6), rowI (aD zA) cnt 4 1 (bools cy), rowI (aD zB) cnt 52 1 (uns ha), rowI cb cc 3 1 (nats cn), oI bx1 79 [(.slice nb nx.length nc), (.slice mb ms.length mc), .int .u64 ((2 ^ m - 1 : Nat) : Int)]] ++ (itms 3 qs))) (by rw [show putL (bools ls8) x [(.bool gs6[c])] = bools (ls8.set x gs6[c]) from (by simp [putL])]; exact Sub.of (List.Sublist.refl _)) ?_
    refine TO.nil (T.rg (TO.q (q_addN (a := j) (b := 1) rfl rfl (by omega)) (TO.qm rfl (TO.nil ?_))))
    exact ⟨j + 1, by omega, ls8.set x gs6[c], rfl, by omega, hlv8.step hlt193 hx hxl hxc (by rw [gb (by omega)]), ⟨rfl, rfl, rfl, rfl, rfl, rfl, rfl, rfl, rfl, rfl, rfl, rfl, rfl, rfl, rfl, rfl, rfl, rfl, trivial⟩⟩
   have hge193 : ¬ j < qs[c].xs.length := by omega
   refine T.exit ?_
   refine T.rg (TO.q (q_addN (a := c) (b := 1) rfl rfl (by omega)) (TO.qm rfl (TO.nil ?_)))
   exact ⟨c + 1, by omega, gs6, ls8, co5, rfl, by omega, hlv8.done (by omega) (hor9.all hqc), ⟨rfl, rfl, rfl, rfl, rfl, rfl, rfl, rfl, rfl, rfl, rfl, rfl, rfl, trivial⟩⟩
  refine DO.q rfl (QT.toB (q_move rfl) (Bool.eq_false_iff.2 hs132)) (DO.passed rfl rfl rfl (DO.passed rfl rfl rfl (DO.passed rfl rfl rfl (DO.passed rfl rfl rfl (DO.passed rfl rfl rfl (DO.passed rfl rfl rfl (DO.passed rfl rfl rfl ?_)))))))
  refine DO.q rfl (q_pick0 rfl rfl) (DO.q rfl (q_ix (i := c) Try.underlying39 inf4 rfl rfl (rowO (mG 3 rfl))) ?_)
  refine DO.last rfl rfl (l_st (j := c) (v := .bool false) (vs := [(.bool false)]) (cs := bools gs) 3 inf4 rfl rfl rfl rfl rfl (by simp) rfl (by first | (simp; omega) | (simp_all; omega)) ?_)
  refine DO.sub (O' := ([rowI (aD bx3) cnt 22 1 (vals qs), rowI (aD zL) nx.length 4 1 (bools ls), rowI (aD zK) nx.length 4 1 (bools co), rowI (aD bx2) cnt 4 1 (bools (gs.set c (false))), rowI (aD zA) cnt 4 1 (bools cy), rowI (aD zB) cnt 52 1 (uns ha), rowI cb cc 3 1 (nats cn), oI bx1 79 [(.slice nb nx.length nc), (.slice mb ms.length mc), .int .u64 ((2 ^ m - 1 : Nat) : Int)]] ++ (itms 3 qs))) (by rw [show putL (bools gs) c [(.bool false)] = bools (gs.set c (false)) from (by simp [putL])]; exact Sub.of (List.Sublist.refl _)) ?_
  refine DO.done ?_
  refine T.seq (T.seq (T.rg (TO.qm rfl (TO.q (q_len Try.underlying22 rfl) (TO.qm rfl (TO.nil (T.block ?_)))))))
  have hbeg : LvC nx ms m cn cnt c qs[c].xs 0 (gs.set c (false)) ls co := hlv.begin hlt122 (fun v hv e => by
   rw [show Cor nx ms m v = Core (adjE nx) m (mkM nx ms) v from rfl, ← core_iff hC hval hcy9 hha9 hv e, gb (by omega), gd (by omega)]
   simp [hs132])
  refine T.loop (fun (j : Nat) ρ O => ∃ (co5 : List Bool), O = ([rowI (aD bx3) cnt 22 1 (vals qs), rowI (aD zL) nx.length 4 1 (bools ls), rowI (aD zK) nx.length 4 1 (bools co5), rowI (aD bx2) cnt 4 1 (bools (gs.set c (false))), rowI (aD zA) cnt 4 1 (bools cy), rowI (aD zB) cnt 52 1 (uns ha), rowI cb cc 3 1 (nats cn), oI bx1 79 [(.slice nb nx.length nc), (.slice mb ms.length mc), .int .u64 ((2 ^ m - 1 : Nat) : Int)]] ++ (itms 3 qs)) ∧ j ≤ qs[c].xs.length ∧ LvC nx ms m cn cnt c qs[c].xs j (gs.set c (false)) ls co5 ∧ Heads [(0, (.agg #[(.slice nb nx.length nc), (.slice mb ms.length mc), .int .u64 ((2 ^ m - 1 : Nat) : Int)])), (1, (.pointer (aD bx1))), (2, (.slice (aD zL) nx.length nx.length)), (3, (.slice (aD zK) nx.length nx.length)), (4, (.slice cb nx.length cc)), (5, .int .i64 ((cnt : Nat) : Int)), (6, (.slice (aD zA) cnt cnt)), (7, (.slice (aD zB) cnt cnt)), (12, (.slice (aD bx2) cnt cnt)), (13, (.slice (aD bx3) cnt cnt)), (16, .int .i64 (c : Int)), (17, (.slice qs[c].b qs[c].xs.length qs[c].c)), (119, (.slice (aD bx3) cnt cnt)), (120, .int .i64 (cnt : Int)), (121, .int .i64 (c : Int)), (142, (.slice qs[c].b qs[c].xs.length qs[c].c)), (143, .int .i64 (qs[c].xs.length : Int)), (144, .int .i64 (j : Int))] ρ) (fun j => qs[c].xs.length - j) 0 ?_ ?_
  ·exact ⟨co, rfl, Nat.zero_le _, hbeg, ⟨rfl, rfl, rfl, rfl, rfl, rfl, rfl, rfl, rfl, rfl, rfl, rfl, rfl, rfl, rfl, rfl, rfl, rfl, trivial⟩⟩
  rintro j ρ O ⟨co5, rfl, hj, hlv5, hH⟩
  obtain ⟨ρ0, rfl⟩ := hH.elim
  clear hH
  have hcl2 := hlv5.lc
  refine T.seq (T.rg (TO.q (q_lss rfl rfl) (TO.nil (T.seq (T.condP rfl (fun hc => ?_) (fun hc => ?_))))))
  ·have hlt145 : j < qs[c].xs.length := by omega
   obtain ⟨x, hx, hxl, hxc⟩ := hor9.at hqc hlt145
   refine T.skip (T.seq (T.block (T.seq (T.rg (TO.q (q_ix (i := j) Try.underlying22 inf3 rfl rfl (rowO (itms_at hqc))) (TO.q (q_ld Try.underlying3 rfl rfl (rowO (itms_at hqc)) (show (ints qs[c].xs)[j]? = _ by rw [ints_get hlt145, hx])) (TO.qa rfl (TO.nil (T.rg (TO.qm rfl (TO.qm rfl (TO.qm rfl (TO.qm rfl ?_)))))))))))))
   refine TO.q (q_ix (i := c) Try.underlying39 inf4 rfl rfl (rowO (mG 3 rfl))) (TO.q (q_ld Try.underlying4 rfl rfl (rowO (mG 3 rfl)) (show (bools (gs.set c (false)))[c]? = some (.bool (false)) by rw [List.getElem?_map, List.getElem?_set_self (by omega)]; rfl)) (TO.q (q_ix (i := x) Try.underlying39 inf4 rfl rfl (rowO (mG 2 rfl))) ?_))
   refine TO.l rfl (l_st (j := x) (v := .bool (false)) (vs := [(.bool (false))]) (cs := bools co5) 2 inf4 rfl rfl rfl rfl rfl (by simp) rfl (by first | (simp; omega) | (simp_all; omega)) ?_)
   refine TO.sub (O' := ([rowI (aD bx3) cnt 22 1 (vals qs), rowI (aD zL) nx.length 4 1 (bools ls), rowI (aD zK) nx.length 4 1 (bools (co5.set x (false))), rowI (aD bx2) cnt 4 1 (bools (gs.set c (false))), rowI (aD zA) cnt 4 1 (bools cy), rowI (aD zB) cnt 52 1 (uns ha), rowI cb cc 3 1 (nats cn), oI bx1 79 [(.slice nb nx.length nc), (.slice mb ms.length mc), .int .u64 ((2 ^ m - 1 : Nat) : Int)]] ++ (itms 3 qs))) (by rw [show putL (bools co5) x [(.bool (false))] = bools (co5.set x (false)) from (by simp [putL])]; exact Sub.of (List.Sublist.refl _)) ?_
   refine TO.nil (T.rg (TO.q (q_addN (a := j) (b := 1) rfl rfl (by omega)) (TO.qm rfl (TO.nil ?_))))
   exact ⟨j + 1, by omega, co5.set x (false), rfl, by omega, hlv5.coreStep hlt145 hx hxl hxc (by rw [getB_set (by omega), if_pos rfl]), ⟨rfl, rfl, rfl, rfl, rfl, rfl, rfl, rfl, rfl, rfl, rfl, rfl, rfl, rfl, rfl, rfl, rfl, rfl, trivial⟩⟩
  have hge145 : ¬ j < qs[c].xs.length := by omega
  refine T.exit ?_
  refine T.seq (T.seq (T.rg (TO.qm rfl (TO.q (q_len Try.underlying22 rfl) (TO.qm rfl (TO.nil (T.block ?_)))))))
  refine T.loop (fun (j : Nat) ρ O => ∃ (gs6 : List Bool), O = ([rowI (aD bx3) cnt 22 1 (vals qs), rowI (aD zL) nx.length 4 1 (bools ls), rowI (aD zK) nx.length 4 1 (bools co5), rowI (aD bx2) cnt 4 1 (bools gs6), rowI (aD zA) cnt 4 1 (bools cy), rowI (aD zB) cnt 52 1 (uns ha), rowI cb cc 3 1 (nats cn), oI bx1 79 [(.slice nb nx.length nc), (.slice mb ms.length mc), .int .u64 ((2 ^ m - 1 : Nat) : Int)]] ++ (itms 3 qs)) ∧ j ≤ qs[c].xs.length ∧ LvD nx ms m cn cnt c qs[c].xs j 0 gs6 ls co5 ∧ Heads [(0, (.agg #[(.slice nb nx.length nc), (.slice mb ms.length mc), .int .u64 ((2 ^ m - 1 : Nat) : Int)])), (1, (.pointer (aD bx1))), (2, (.slice (aD zL) nx.length nx.length)), (3, (.slice (aD zK) nx.length nx.length)), (4, (.slice cb nx.length cc)), (5, .int .i64 ((cnt : Nat) : Int)), (6, (.slice (aD zA) cnt cnt)), (7, (.slice (aD zB) cnt cnt)), (12, (.slice (aD bx2) cnt cnt)), (13, (.slice (aD bx3) cnt cnt)), (16, .int .i64 (c : Int)), (17, (.slice qs[c].b qs[c].xs.length qs[c].c)), (119, (.slice (aD bx3) cnt cnt)), (120, .int .i64 (cnt : Int)), (121, .int .i64 (c : Int)), (156, (.slice qs[c].b qs[c].xs.length qs[c].c)), (157, .int .i64 (qs[c].xs.length : Int)), (158, .int .i64 (j : Int))] ρ) (fun j => qs[c].xs.length - j) 0 ?_ ?_
  ·exact ⟨_, rfl, Nat.zero_le _, hlv5.toD (by omega) (hor9.all hqc), ⟨rfl, rfl, rfl, rfl, rfl, rfl, rfl, rfl, rfl, rfl, rfl, rfl, rfl, rfl, rfl, rfl, rfl, rfl, trivial⟩⟩
  rintro j ρ O ⟨gs6, rfl, hj6, hlv6, hH⟩
  obtain ⟨ρ0, rfl⟩ := hH.elim
  clear hH
  refine T.seq (T.rg (TO.q (q_lss rfl rfl) (TO.nil (T.seq (T.condP rfl (fun hc => ?_) (fun hc => ?_))))))
  ·have hlt159 : j < qs[c].xs.length := by omega
   obtain ⟨x, hx, hxl, hxc⟩ := hor9.at hqc hlt159
   obtain ⟨rb2, rc2, g2, s2⟩ := hR.get hxl
   have hrx := hrl _ (List.getElem_mem hxl)
   refine T.skip (T.seq (T.block (T.seq (T.rg (TO.q (q_ix (i := j) Try.underlying22 inf3 rfl rfl (rowO (itms_at hqc))) (TO.q (q_ld Try.underlying3 rfl rfl (rowO (itms_at hqc)) (show (ints qs[c].xs)[j]? = _ by rw [ints_get hlt159, hx])) (TO.qa rfl (TO.nil (T.seq (T.rg (TO.q (q_fa Try.underlying79 rfl inf24 rfl rfl) (TO.q (q_lb 7 Try.underlying24 rfl rfl rfl rfl) (TO.qm rfl (TO.q (q_ix (i := x) Try.underlying24 inf22 rfl rfl (Sl.o hS) (by first | assumption | omega | (simp; omega) | simp_all) (by rw [hR.1]; exact hxl)) (TO.q (q_ld Try.underlying22 rfl rfl (Sl.o hS) g2) (TO.q (q_len Try.underlying22 rfl) (TO.qm rfl (TO.nil (T.block ?_)))))))))))))))))))
   refine T.loop (fun (i : Nat) ρ O => ∃ (gs7 : List Bool), O = ([rowI (aD bx3) cnt 22 1 (vals qs), rowI (aD zL) nx.length 4 1 (bools ls), rowI (aD zK) nx.length 4 1 (bools co5), rowI (aD bx2) cnt 4 1 (bools gs7), rowI (aD zA) cnt 4 1 (bools cy), rowI (aD zB) cnt 52 1 (uns ha), rowI cb cc 3 1 (nats cn), oI bx1 79 [(.slice nb nx.length nc), (.slice mb ms.length mc), .int .u64 ((2 ^ m - 1 : Nat) : Int)]] ++ (itms 3 qs)) ∧ i ≤ nx[x].length ∧ LvD nx ms m cn cnt c qs[c].xs j i gs7 ls co5 ∧ Heads [(0, (.agg #[(.slice nb nx.length nc), (.slice mb ms.length mc), .int .u64 ((2 ^ m - 1 : Nat) : Int)])), (1, (.pointer (aD bx1))), (2, (.slice (aD zL) nx.length nx.length)), (3, (.slice (aD zK) nx.length nx.length)), (4, (.slice cb nx.length cc)), (5, .int .i64 ((cnt : Nat) : Int)), (6, (.slice (aD zA) cnt cnt)), (7, (.slice (aD zB) cnt cnt)), (12, (.slice (aD bx2) cnt cnt)), (13, (.slice (aD bx3) cnt cnt)), (16, .int .i64 (c : Int)), (17, (.slice qs[c].b qs[c].xs.length qs[c].c)), (21, .int .i64 ((x : Nat) : Int)), (119, (.slice (aD bx3) cnt cnt)), (120, .int .i64 (cnt : Int)), (121, .int .i64 (c : Int)), (156, (.slice qs[c].b qs[c].xs.length qs[c].c)), (157, .int .i64 (qs[c].xs.length : Int)), (158, .int .i64 (j : Int)), (166, (.slice rb2 nx[x].length rc2)), (167, .int .i64 (nx[x].length : Int)), (168, .int .i64 (i : Int))] ρ) (fun i => nx[x].length - i) 0 ?_ ?_
   ·exact ⟨gs6, rfl, Nat.zero_le _, hlv6, ⟨rfl, rfl, rfl, rfl, rfl, rfl, rfl, rfl, rfl, rfl, rfl, rfl, rfl, rfl, rfl, rfl, rfl, rfl, rfl, rfl, rfl, rfl, trivial⟩⟩
   rintro i ρ O ⟨gs7, rfl, hi, hlv7, hH⟩
   obtain ⟨ρ0, rfl⟩ := hH.elim
   clear hH
   have hgl7 := hlv7.lg
   refine T.seq (T.rg (TO.q (q_lss rfl rfl) (TO.nil (T.seq (T.condP rfl (fun hc => ?_) (fun hc => ?_))))))
   ·have hlt169 : i < nx[x].length := by omega
    obtain ⟨u, hu, hul⟩ : ∃ u : Nat, nx[x][i] = (u : Int) ∧ u < nx.length := by
     have := hval _ (List.getElem_mem hxl) _ (List.getElem_mem hlt169)
     exact ⟨nx[x][i].toNat, by omega, by omega⟩
    have hfu : fn cn u = cn[u] := fn_get (by omega)
    have hcu : cn[u] < cnt := by have := (hC.pos u hul).2; have h2 : ((fn cn u : Nat) : Int) < cnt := this; omega
    refine T.skip (T.seq (T.block (T.seq (T.rg (TO.q (q_ix (i := i) Try.underlying22 inf3 rfl rfl (Sl.o s2)) (TO.q (q_ld Try.underlying3 rfl rfl (Sl.o s2) (show (ints nx[x])[i]? = _ by rw [ints_get hlt169, hu])) (TO.qa rfl (TO.nil (T.rg (TO.qm rfl (TO.qm rfl (TO.qm rfl (TO.qm rfl (TO.q (q_ix (i := c) Try.underlying39 inf4 rfl rfl (rowO (mG 3 rfl))) (TO.q (q_ld Try.underlying4 rfl rfl (rowO (mG 3 rfl)) bools_get) ?_)))))))))))))))
    by_cases hs178 : gs7[c] = true
    ·refine TO.q (QT.toB (q_move rfl) (hs178)) ?_
     refine TO.pd rfl rfl (TO.pd rfl rfl (TO.pd rfl rfl (TO.pd rfl rfl (TO.pd rfl rfl (TO.pd rfl rfl (TO.pd rfl rfl (TO.q (q_pick1 rfl rfl) (TO.q (q_ix (i := c) Try.underlying39 inf4 rfl rfl (rowO (mG 3 rfl))) (TO.l rfl (l_st (j := c) (v := .bool true) (vs := [(.bool true)]) (cs := bools gs7) 3 inf4 rfl rfl rfl rfl rfl (by simp) rfl (by first | (simp; omega) | (simp_all; omega)) ?_))))))))))
     refine TO.sub (O' := ([rowI (aD bx3) cnt 22 1 (vals qs), rowI (aD zL) nx.length 4 1 (bools ls), rowI (aD zK) nx.length 4 1 (bools co5), rowI (aD bx2) cnt 4 1 (bools (gs7.set c true)), rowI (aD zA) cnt 4 1 (bools cy), rowI (aD zB) cnt 52 1 (uns ha), rowI cb cc 3 1 (nats cn), oI bx1 79 [(.slice nb nx.length nc), (.slice mb ms.length mc), .int .u64 ((2 ^ m - 1 : Nat) : Int)]] ++ (itms 3 qs))) (by rw [show putL (bools gs7) c [(.bool true)] = bools (gs7.set c true) from (by simp [putL])]; exact Sub.of (List.Sublist.refl _)) ?_
     refine TO.nil (T.rg (TO.q (q_addN (a := i) (b := 1) rfl rfl (by omega)) (TO.qm rfl (TO.nil ?_))))
     exact ⟨i + 1, by omega, gs7.set c true, rfl, by omega, hlv7.step hC hval hlt122 hlt159 hx hxl hxc hlt169 hu (by rw [gb (by omega), gb (by rw [hfu]; omega)]; simp only [hfu]; simp [hs178]), ⟨rfl, rfl, rfl, rfl, rfl, rfl, rfl, rfl, rfl, rfl, rfl, rfl, rfl, rfl, rfl, rfl, rfl, rfl, rfl, rfl, rfl, rfl, trivial⟩⟩
    refine TO.q (QT.toB (q_move rfl) (Bool.eq_false_iff.2 hs178)) (TO.gq rfl rfl (q_move rfl) (TO.gq rfl rfl (q_move rfl) (TO.gq rfl rfl (q_move rfl) (TO.gq rfl rfl (q_ix (i := u) Try.underlying22 inf3 rfl rfl (rowO (mG 6 rfl))) (TO.gq rfl rfl (q_ld Try.underlying3 rfl rfl (rowO (mG 6 rfl)) nats_get) (TO.gq rfl rfl (q_ix (i := cn[u]) Try.underlying39 inf4 rfl rfl (rowO (mG 3 rfl))) (TO.gq rfl rfl (q_ld Try.underlying4 rfl rfl (rowO (mG 3 rfl)) bools_get) ?_)))))))
    refine TO.q (q_pick0 rfl rfl) (TO.q (q_ix (i := c) Try.underlying39 inf4 rfl rfl (rowO (mG 3 rfl))) (TO.l rfl (l_st (j := c) (v := .bool gs7[cn[u]]) (vs := [(.bool gs7[cn[u]])]) (cs := bools gs7) 3 inf4 rfl rfl rfl rfl rfl (by simp) rfl (by first | (simp; omega) | (simp_all; omega)) ?_)))
    refine TO.sub (O' := ([rowI (aD bx3) cnt 22 1 (vals qs), rowI (aD zL) nx.length 4 1 (bools ls), rowI (aD zK) nx.length 4 1 (bools co5), rowI (aD bx2) cnt 4 1 (bools (gs7.set c gs7[cn[u]])), rowI (aD zA) cnt 4 1 (bools cy), rowI (aD zB) cnt 52 1 (uns ha), rowI cb cc 3 1 (nats cn), oI bx1 79 [(.slice nb nx.length nc), (.slice mb ms.length mc), .int .u64 ((2 ^ m - 1 : Nat) : Int)]] ++ (itms 3 qs))) (by rw [show putL (bools gs7) c [(.bool gs7[cn[u]])] = bools (gs7.set c gs7[cn[u]]) from (by simp [putL])]; exact Sub.of (List.Sublist.refl _)) ?_
    refine TO.nil (T.rg (TO.q (q_addN (a := i) (b := 1) rfl rfl (by omega)) (TO.qm rfl (TO.nil ?_))))
    exact ⟨i + 1, by omega, gs7.set c gs7[cn[u]], rfl, by omega, hlv7.step hC hval hlt122 hlt159 hx hxl hxc hlt169 hu (by rw [gb (by omega), gb (by rw [hfu]; omega)]; simp only [hfu]; simp [hs178]), ⟨rfl, rfl, rfl, rfl, rfl, rfl, rfl, rfl, rfl, rfl, rfl, rfl, rfl, rfl, rfl, rfl, rfl, rfl, rfl, rfl, rfl, rfl, trivial⟩⟩
   have hge169 : ¬ i < nx[x].length := by omega
   refine T.exit ?_
   refine T.rg (TO.q (q_addN (a := j) (b := 1) rfl rfl (by omega)) (TO.qm rfl (TO.nil ?_)))
   exact ⟨j + 1, by omega, gs7, rfl, by omega, hlv7.next hlt159 hx hxl (by omega), ⟨rfl, rfl, rfl, rfl, rfl, rfl, rfl, rfl, rfl, rfl, rfl, rfl, rfl, rfl, rfl, rfl, rfl, rfl, trivial⟩⟩
  have hge159 : ¬ j < qs[c].xs.length := by omega
  refine T.exit ?_
  refine T.seq (T.rg (TO.qm rfl (TO.q (q_len Try.underlying22 rfl) (TO.qm rfl (TO.nil (T.block ?_))))))
  refine T.loop (fun (j : Nat) ρ O => ∃ (ls8 : List Bool), O = ([rowI (aD bx3) cnt 22 1 (vals qs), rowI (aD zL) nx.length 4 1 (bools ls8), rowI (aD zK) nx.length 4 1 (bools co5), rowI (aD bx2) cnt 4 1 (bools gs6), rowI (aD zA) cnt 4 1 (bools cy), rowI (aD zB) cnt 52 1 (uns ha), rowI cb cc 3 1 (nats cn), oI bx1 79 [(.slice nb nx.length nc), (.slice mb ms.length mc), .int .u64 ((2 ^ m - 1 : Nat) : Int)]] ++ (itms 3 qs)) ∧ j ≤ qs[c].xs.length ∧ LvE nx ms m cn cnt c qs[c].xs j gs6 ls8 co5 ∧ Heads [(0, (.agg #[(.slice nb nx.length nc), (.slice mb ms.length mc), .int .u64 ((2 ^ m - 1 : Nat) : Int)])), (1, (.pointer (aD bx1))), (2, (.slice (aD zL) nx.length nx.length)), (3, (.slice (aD zK) nx.length nx.length)), (4, (.slice cb nx.length cc)), (5, .int .i64 ((cnt : Nat) : Int)), (6, (.slice (aD zA) cnt cnt)), (7, (.slice (aD zB) cnt cnt)), (12, (.slice (aD bx2) cnt cnt)), (13, (.slice (aD bx3) cnt cnt)), (16, .int .i64 (c : Int)), (17, (.slice qs[c].b qs[c].xs.length qs[c].c)), (119, (.slice (aD bx3) cnt cnt)), (120, .int .i64 (cnt : Int)), (121, .int .i64 (c : Int)), (190, (.slice qs[c].b qs[c].xs.length qs[c].c)), (191, .int .i64 (qs[c].xs.length : Int)), (192, .int .i64 (j : Int))] ρ) (fun j => qs[c].xs.length - j) 0 ?_ ?_
  ·exact ⟨ls, rfl, Nat.zero_le _, hlv6.toE hC hval (by omega) (hor9.all hqc), ⟨rfl, rfl, rfl, rfl, rfl, rfl, rfl, rfl, rfl, rfl, rfl, rfl, rfl, rfl, rfl, rfl, rfl, rfl, trivial⟩⟩
  rintro j ρ O ⟨ls8, rfl, hj8, hlv8, hH⟩
  obtain ⟨ρ0, rfl⟩ := hH.elim
  clear hH
  have hll8 := hlv8.ll; have hgl8 := hlv8.lg
  refine T.seq (T.rg (TO.q (q_lss rfl rfl) (TO.nil (T.seq (T.condP rfl (fun hc => ?_) (fun hc => ?_))))))
  ·have hlt193 : j < qs[c].xs.length := by omega
   obtain ⟨x, hx, hxl, hxc⟩ := hor9.at hqc hlt193
   refine T.skip (T.seq (T.block (T.seq (T.rg (TO.q (q_ix (i := j) Try.underlying22 inf3 rfl rfl (rowO (itms_at hqc))) (TO.q (q_ld Try.underlying3 rfl rfl (rowO (itms_at hqc)) (show (ints qs[c].xs)[j]? = _ by rw [ints_get hlt193, hx])) (TO.qa rfl (TO.nil (T.rg (TO.qm rfl (TO.qm rfl (TO.qm rfl (TO.qm rfl (TO.q (q_ix (i := c) Try.underlying39 inf4 rfl rfl (rowO (mG 3 rfl))) (TO.q (q_ld Try.underlying4 rfl rfl (rowO (mG 3 rfl)) bools_get) (TO.q (q_ix (i := x) Try.underlying39 inf4 rfl rfl (rowO (mG 1 rfl))) (TO.l rfl (l_st (j := x) (v := .bool gs6[c]) (vs := [(.bool gs6[c])]) (cs := bools ls8) 1 inf4 rfl rfl rfl rfl rfl (by simp) rfl (by first | (simp; omega) | (simp_all; omega)) ?_))))))))))))))))))
   refine TO.sub (O' := ([rowI (aD bx3) cnt 22 1 (vals qs), rowI (aD zL) nx.length 4 1 (bools (ls8.set x gs6[c])), rowI (aD zK) nx.length 4 1 (bools co5), rowI (aD bx2) cnt 4 1 (bools gs6), rowI (aD zA) cnt 4 1 (bools cy), rowI (aD zB) cnt 52 1 (uns ha), rowI cb cc 3 1 (nats cn), oI bx1 79 [(.slice nb nx.length nc), (.slice mb ms.length mc), .int .u64 ((2 ^ m - 1 : Nat) : Int)]] ++ (itms 3 qs))) (by rw [show putL (bools ls8) x [(.bool gs6[c])] = bools (ls8.set x gs6[c]) from (by simp [putL])]; exact Sub.of (List.Sublist.refl _)) ?_
   refine TO.nil (T.rg (TO.q (q_addN (a := j) (b := 1) rfl rfl (by omega)) (TO.qm rfl (TO.nil ?_))))
   exact ⟨j + 1, by omega, ls8.set x gs6[c], rfl, by omega, hlv8.step hlt193 hx hxl hxc (by rw [gb (by omega)]), ⟨rfl, rfl, rfl, rfl, rfl, rfl, rfl, rfl, rfl, rfl, rfl, rfl, rfl, rfl, rfl, rfl, rfl, rfl, trivial⟩⟩
  have hge193 : ¬ j < qs[c].xs.length := by omega
  refine T.exit ?_
  refine T.rg (TO.q (q_addN (a := c) (b := 1) rfl rfl (by omega)) (TO.qm rfl (TO.nil ?_)))
  exact ⟨c + 1, by omega, gs6, ls8, co5, rfl, by omega, hlv8.done (by omega) (hor9.all hqc), ⟨rfl, rfl, rfl, rfl, rfl, rfl, rfl, rfl, rfl, rfl, rfl, rfl, rfl, trivial⟩⟩
 have hge122 : ¬ c < cnt := by omega
 refine T.exit ?_
 refine T.seq (T.rg (TO.qm rfl (TO.qm rfl (TO.qa rfl (TO.qa rfl (TO.nil (T.ret (Res.drop ?_))))))))
 refine Res.two (.slice (aD zL) nx.length nx.length) (.slice (aD zK) nx.length nx.length) Try.results55 rfl rfl ?_
 exact ⟨[rowI (aD zL) nx.length 4 1 (bools ls), rowI (aD zK) nx.length 4 1 (bools co)], (Sub.pick0 [1, 1] [rowI (aD bx3) cnt 22 1 (vals qs), rowI (aD zL) nx.length 4 1 (bools ls), rowI (aD zK) nx.length 4 1 (bools co), rowI (aD bx2) cnt 4 1 (bools gs), rowI (aD zA) cnt 4 1 (bools cy), rowI (aD zB) cnt 52 1 (uns ha), rowI cb cc 3 1 (nats cn), oI bx1 79 [(.slice nb nx.length nc), (.slice mb ms.length mc), .int .u64 ((2 ^ m - 1 : Nat) : Int)]] (itms 3 qs) rfl rfl), _, _, _, _, ls, co, rfl, rfl, hlv.ll, hlv.lc, fun v hv => ⟨hlv.li v hv (by have := (hC.pos v hv).2; have h2 : ((fn cn v : Nat) : Int) < cnt := this; omega), hlv.co v hv (by have := (hC.pos v hv).2; have h2 : ((fn cn v : Nat) : Int) < cnt := this; omega)⟩⟩
end Go.Proofs.Ytnamoapbienooaa
