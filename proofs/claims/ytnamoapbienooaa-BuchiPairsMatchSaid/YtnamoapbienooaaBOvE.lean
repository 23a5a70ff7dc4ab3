/- Contracts of functions of the program (BOvE): what each call answers and that it leaves memory as it was. Conditions: those each theorem names. -/
import Derived.Test.YtnamoapbienooaaLv
import Derived.Test.YtnamoapbienooaaDeg
set_option linter.unusedSectionVars false
set_option linter.unusedSimpArgs false
set_option linter.unusedVariables false
set_option linter.unnecessarySimpa false
set_option maxRecDepth 20000
set_option maxHeartbeats 4000000
namespace Go.Proofs.Ytnamoapbienooaa
open Go.Lx Go.RowKit
set_option linter.unusedVariables false
set_option linter.unusedSimpArgs false
theorem shiftF (w : World) (b : Option Addr) (c : Nat) (xs : List Int) (d : Nat) (h : Sl w b (ints xs)) (hb : xs.length ≤ 1000000) (hx : ∀ x ∈ xs, 0 ≤ x ∧ x ≤ 1000000000000) (hd : d ≤ 1000000000000) :
  PureT Try.prog 86 [.slice b xs.length c, .int .i64 ((d : Nat) : Int)] w fun v N => ∃ b' c', v = .slice b' xs.length c' ∧ N = [rowI b' c' 3 1 (ints (xs.map fun x => x + ((d : Nat) : Int)))] := by
 refine CallT.enter Try.func86 rfl Try.ntmps86 rfl ?_
 refine T.seq (T.rg (TO.qa rfl (TO.nil (T.seq (T.rg (TO.qm rfl (TO.q (q_len Try.underlying22 rfl) (TO.l rfl (l_makeSlice (m := xs.length) Try.underlying22 inf3 rfl rfl (by omega) (by omega) (fun bx1 => ?_))))))))))
 refine TO.qa rfl (TO.nil (T.seq (T.seq (T.rg (TO.qm rfl (TO.q (q_len Try.underlying22 rfl) (TO.qm rfl (TO.nil (T.block ?_)))))))))
 refine T.loop (fun (k : Nat) ρ O => ∃ (ys : List Int), O = [rowI (aD bx1) xs.length 3 1 (ints ys)] ∧ k ≤ xs.length ∧ ys.length = xs.length ∧ ys.take k = (xs.take k).map (fun x => x + ((d : Nat) : Int)) ∧ Heads [(0, (.slice b xs.length c)), (1, .int .i64 ((d : Nat) : Int)), (4, nS), (5, (.slice (aD bx1) xs.length xs.length)), (11, (.slice b xs.length c)), (12, .int .i64 (xs.length : Int)), (13, .int .i64 (k : Int))] ρ) (fun k => xs.length - k) 0 ?_ ?_
 ·exact ⟨List.replicate xs.length 0, by simp only [List.map_replicate], Nat.zero_le _, by simp, by simp, ⟨rfl, rfl, rfl, rfl, rfl, rfl, rfl, trivial⟩⟩
 rintro k ρ O ⟨ys, rfl, hk, hyl, hyt, hH⟩
 obtain ⟨ρ0, rfl⟩ := hH.elim
 clear hH
 have hlt2 : k ≤ ys.length := by omega
 refine T.seq (T.rg (TO.q (q_lss rfl rfl) (TO.nil (T.seq (T.condP rfl (fun hc => ?_) (fun hc => ?_))))))
 ·have hlt14 : k < xs.length := by omega
  have hxk := hx xs[k] (List.getElem_mem hlt14)
  refine T.skip (T.seq (T.block (T.seq (T.rg (TO.qm rfl (TO.q (q_ix (i := k) Try.underlying22 inf3 rfl rfl (Sl.o h)) (TO.q (q_ld Try.underlying3 rfl rfl (Sl.o h) ints_get) (TO.qa rfl (TO.qa rfl (TO.nil (T.rg (TO.qm rfl (TO.qm rfl (TO.qm rfl (TO.qm rfl (TO.q (q_add64 rfl rfl (by omega)) (TO.q (q_ix (i := k) Try.underlying22 inf3 rfl rfl (rowO (mG 0 rfl))) (TO.l rfl (l_st (j := k) (v := .int .i64 (xs[k] + ((d : Nat) : Int))) (vs := [(.int .i64 (xs[k] + ((d : Nat) : Int)))]) (cs := ints ys) 0 inf3 rfl rfl rfl rfl rfl (by simp) rfl (by first | (simp; omega) | (simp_all; omega)) ?_)))))))))))))))))))
  refine TO.sub (O' := [rowI (aD bx1) xs.length 3 1 (ints (ys.set k (xs[k] + ((d : Nat) : Int))))]) (by rw [show putL (ints ys) k [(.int .i64 (xs[k] + ((d : Nat) : Int)))] = ints (ys.set k (xs[k] + ((d : Nat) : Int))) from (by simp [putL])]; exact Sub.of (List.Sublist.refl _)) ?_
  refine TO.nil (T.rg (TO.q (q_addN (a := k) (b := 1) rfl rfl (by omega)) (TO.qm rfl (TO.nil ?_))))
  refine ⟨k + 1, by omega, ys.set k (xs[k] + ((d : Nat) : Int)), rfl, by omega, by simp [hyl], ?_, ⟨rfl, rfl, rfl, rfl, rfl, rfl, rfl, trivial⟩⟩
  rw [take_set_snoc (by omega), hyt, List.take_succ_eq_append_getElem hlt14, List.map_append]; rfl
 have hge14 : ¬ k < xs.length := by omega
 refine T.exit ?_
 refine T.seq (T.rg (TO.qm rfl (TO.qa rfl (TO.nil (T.ret ?_)))))
 refine Res.one (.slice (aD bx1) xs.length xs.length) Try.results86 rfl ?_
 have hye : ys = xs.map (fun x => x + ((d : Nat) : Int)) := by rw [List.take_of_length_le (by omega), List.take_of_length_le (by omega)] at hyt; exact hyt
 subst hye
 exact ⟨_, _, rfl, rfl⟩
theorem cloneENil (w : World) (c : Nat) :
  PureT Try.prog 85 [.slice none 0 c] w fun v N => ∃ b' c', v = .slice b' 0 c' ∧ N = [rowI b' c' 54 4 []] := by
 refine CallT.enter Try.func85 rfl Try.ntmps85 rfl ?_
 refine T.seq (T.rg (TO.qa rfl (TO.nil (T.seq (T.seq (T.rg (TO.qm rfl (TO.q (q_eqlNil Try.underlying23 rfl rfl) (TO.nil ?_)))))))))
 refine T.cond1 rfl ?_
 refine T.seq (T.nilRow 54 4 ?_)
 refine T.rg (TO.qa rfl (TO.nil (T.ret ?_)))
 refine Res.one nS Try.results85 rfl ?_
 exact ⟨_, _, rfl, rfl⟩
theorem cloneESome (w : World) (a : Addr) (c : Nat) (xs : List Ed) (h1 : Sl w (some a) (edsC xs)) (hb : xs.length ≤ 1000000000) :
  PureT Try.prog 85 [.slice (some a) xs.length c] w fun v N => ∃ b' c', v = .slice b' xs.length c' ∧ N = [rowI b' c' 54 4 (edsC xs)] := by
 refine CallT.enter Try.func85 rfl Try.ntmps85 rfl ?_
 refine T.seq (T.rg (TO.qa rfl (TO.nil (T.seq (T.seq (T.rg (TO.qm rfl (TO.q (q_eqlNil Try.underlying23 rfl rfl) (TO.nil (T.cond0 rfl (T.skip (T.seq (T.rg (TO.l rfl (l_buildSlice (m := 0) (parts := []) (cs := []) Try.underlying23 inf54 (by decide) (by simp [Instr.fill]) rfl (fun b1 => ?_))))))))))))))))
 refine TO.qm rfl (TO.l rfl (l_append 0 Try.underlying23 Try.underlying23 inf54 rfl rfl rfl rfl (by simp) (by decide) (Src.sl h1 (eds_len xs)) (eds_one xs) (by omega) (by decide) (by decide) (fun bx1 c2 => ?_)))
 refine TO.qa rfl (TO.nil (T.ret ?_))
 refine Res.one (.slice bx1 (0 + xs.length) c2) Try.results85 rfl ?_
 exact ⟨_, _, by rw [Nat.zero_add], rfl⟩
theorem cloneE (w : World) (b : Option Addr) (c : Nat) (xs : List Ed) (h1 : Sl w b (edsC xs)) (hb : xs.length ≤ 1000000000) :
  PureT Try.prog 85 [.slice b xs.length c] w fun v N => ∃ b' c', v = .slice b' xs.length c' ∧ N = [rowI b' c' 54 4 (edsC xs)] := by
 cases b with
 | none =>
  have hx : xs = [] := by
   cases xs with
   | nil => rfl
   | cons x xs => obtain ⟨_, _, e⟩ := h1.addr (i := 0) (by rw [eds_len]; simp); cases e
  subst hx
  exact cloneENil w c
 | some a => exact cloneESome w a c xs h1 hb
theorem overEdges (base : World) (b : Option Addr) (c c' : Nat) (xs : List Ed) (hb : xs.length ≤ 1000000000) :
  CallT Try.prog base 88 [.slice b xs.length c'] [rowI b c 54 4 (edsC xs)] (fun _ O' => O' = []) := by
 refine CallT.enter Try.func88 rfl Try.ntmps88 rfl ?_
 refine T.seq (T.rg (TO.qa rfl (TO.nil (T.block ?_))))
 refine T.loop (fun (k : Nat) ρ O => ∃ (ys : List Ed), O = [rowI b c 54 4 (edsC ys)] ∧ k ≤ xs.length ∧ ys.length = xs.length ∧ Heads [(0, (.slice b xs.length c')), (2, .int .i64 (k : Int))] ρ) (fun k => xs.length - k) 0 ?_ ?_
 ·exact ⟨xs, rfl, Nat.zero_le _, rfl, ⟨rfl, rfl, trivial⟩⟩
 rintro k ρ O ⟨ys, rfl, hk, hyl, hH⟩
 obtain ⟨ρ0, rfl⟩ := hH.elim
 clear hH
 refine T.seq (T.seq (T.rg (TO.qm rfl (TO.qm rfl (TO.q (q_len Try.underlying23 rfl) (TO.q (q_lss rfl rfl) (TO.nil (T.condP rfl (fun hc => ?_) (fun hc => ?_)))))))))
 ·have hlt6 : k < xs.length := by omega
  have hlt : k < ys.length := by omega
  refine T.skip (T.seq (T.block (T.rg (TO.qm rfl (TO.qm rfl (TO.q (q_build (cs := [.int .i64 (-7), (.int .i64 0), (.int .u8 0), (.int .u8 0)]) plan54 inf54 (by kernel_rfl)) (TO.q (q_ixK (i := k) Try.underlying23 inf54 rfl rfl (rowO (mG 0 rfl)) (by first | assumption | omega | (simp; omega) | simp_all) (by first | (rw [eds_len]; omega) | (simp [eds_len]; omega) | (simp_all [eds_len]; omega))) (TO.l rfl (l_st (j := (k * 4)) (v := (.agg #[.int .i64 (-7), (.int .i64 0), (.int .u8 0), (.int .u8 0)])) (vs := [.int .i64 (-7), (.int .i64 0), (.int .u8 0), (.int .u8 0)]) (cs := edsC ys) 0 inf54 rfl rfl rfl rfl rfl (by simp) rfl (by rw [eds_len]; show _ + 4 ≤ _; omega) ?_)))))))))
  refine TO.sub (O' := [rowI b c 54 4 (edsC (ys.set k (⟨-7, 0, 0, 0⟩ : Ed)))]) (by rw [show putL (edsC ys) (k * 4) [.int .i64 (-7), (.int .i64 0), (.int .u8 0), (.int .u8 0)] = edsC (ys.set k (⟨-7, 0, 0, 0⟩ : Ed)) from putL_eds hlt (⟨-7, 0, 0, 0⟩ : Ed)]; exact Sub.of (List.Sublist.refl _)) ?_
  refine TO.nil (T.rg (TO.qm rfl (TO.q (q_addN (a := k) (b := 1) rfl rfl (by omega)) (TO.qa rfl (TO.nil ?_)))))
  exact ⟨k + 1, by omega, ys.set k (⟨-7, 0, 0, 0⟩ : Ed), rfl, by omega, by simp [hyl], ⟨rfl, rfl, trivial⟩⟩
 have hge6 : ¬ k < xs.length := by omega
 refine T.exit ?_
 refine Res.drop ?_
 refine Res.zero Try.results88 ?_
 exact ⟨[], Sub.of (List.nil_sublist _), rfl⟩
theorem overBuchi (base : World) (b : Bu) (sb eb tb : Option Addr) (sc ec tc s1 e1 t1 : Nat) (qs : List Rec) (hq : nums qs = b.sets) (hB : BuB b) :
  CallT Try.prog base 39 [.agg (buC b sb sc eb ec tb tc).toArray] ([rowI sb s1 3 1 (ints b.start), rowI eb e1 54 4 (edsC b.edges), rowI tb t1 22 1 (vals qs)] ++ itms 3 qs) (fun _ O' => O' = []) := by
 refine CallT.enter Try.func39 rfl Try.ntmps39 rfl ?_
 have hst := hB.st; have hed := hB.ed; have hse := hB.se
 have hql : qs.length = b.sets.length := by rw [← hq]; simp [nums]
 have hqr : ∀ q ∈ qs, q.xs.length < 9223372036854775807 := fun q h => by have := hB.sr q.xs (by rw [← hq]; exact List.mem_map_of_mem h); omega
 refine T.seq (T.rg (TO.l rfl (l_box (v := (.agg (buC b sb sc eb ec tb tc).toArray)) (cs := (buC b sb sc eb ec tb tc)) rfl rfl (fun bx1 => ?_))))
 refine TO.nil (T.seq (T.rg (TO.q (q_fa Try.underlying26 rfl inf22 rfl rfl) (TO.q (q_lb 0 Try.underlying22 rfl rfl rfl rfl) ?_))))
 have hk4 := CallT.under (A := [rowI sb s1 3 1 (ints b.start)]) (B := [oI bx1 26 (buC b sb sc eb ec tb tc), rowI eb e1 54 4 (edsC b.edges), rowI tb t1 22 1 (vals qs)] ++ itms 3 qs) (O := ([oI bx1 26 (buC b sb sc eb ec tb tc), rowI sb s1 3 1 (ints b.start), rowI eb e1 54 4 (edsC b.edges), rowI tb t1 22 1 (vals qs)] ++ (itms 3 qs))) (overInts base sb s1 sc b.start (by omega)) (Sub.ca [])
 refine TO.l rfl (l_call ent87 hk4 rfl ?_)
 clear hk4
 rintro vr O' ⟨A1, rfl, rfl⟩
 refine TO.nil (T.seq (T.rg (TO.q (q_fa Try.underlying26 rfl inf23 rfl rfl) (TO.q (q_lb 0 Try.underlying23 rfl rfl rfl rfl) ?_))))
 have hk7 := CallT.under (A := [rowI eb e1 54 4 (edsC b.edges)]) (B := [oI bx1 26 (buC b sb sc eb ec tb tc), rowI tb t1 22 1 (vals qs)] ++ itms 3 qs) (O := ([oI bx1 26 (buC b sb sc eb ec tb tc), rowI eb e1 54 4 (edsC b.edges), rowI tb t1 22 1 (vals qs)] ++ (itms 3 qs))) (overEdges base eb e1 ec b.edges (by omega)) (Sub.ca [])
 refine TO.l rfl (l_call ent88 hk7 rfl ?_)
 clear hk7
 rintro vr O' ⟨A1, rfl, rfl⟩
 refine TO.nil (T.rg (TO.q (q_fa Try.underlying26 rfl inf24 rfl rfl) (TO.q (q_lb 0 Try.underlying24 rfl rfl rfl rfl) ?_)))
 have hk10 := CallT.under (A := [rowI tb t1 22 1 (vals qs)] ++ itms 3 qs) (B := [oI bx1 26 (buC b sb sc eb ec tb tc)]) (O := ([oI bx1 26 (buC b sb sc eb ec tb tc), rowI tb t1 22 1 (vals qs)] ++ (itms 3 qs))) (hql ▸ overRows base tb t1 tc qs (by omega) hqr) (Sub.ca [])
 refine TO.l rfl (l_call ent89 hk10 rfl ?_)
 clear hk10
 rintro vr O' ⟨A1, rfl, rfl⟩
 refine TO.nil (Res.drop ?_)
 refine Res.zero Try.results39 ?_
 exact ⟨[], Sub.of (List.nil_sublist _), rfl⟩
end Go.Proofs.Ytnamoapbienooaa
