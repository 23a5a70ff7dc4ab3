/- Contracts of functions of the program (JH, PjS, JI, PjU, JJ, JK, J6, J9, JA, JB, J5): what each call answers and that it leaves memory as it was. Conditions: those each theorem names. -/
import Derived.Test.YtohkmggbfcnapaaGreatDoorCoreK
import Derived.Test.YtohkmggbfcnapaaGreatDoorBolE
import Derived.Test.YtohkmggbfcnapaaGreatDoorP8
import Derived.Test.YtohkmggbfcnapaaGreatDoorStr
set_option linter.unusedSectionVars false
set_option linter.unusedSimpArgs false
set_option linter.unusedVariables false
set_option linter.unnecessarySimpa false
set_option maxHeartbeats 8000000
set_option maxRecDepth 20000
namespace Go.Proofs.YtohkmggbfcnapaaGreatDoor
open Go.Lx Go.RowKit _root_.Go.Proofs.Tryz
theorem rigBad (w : World) [Tab Tryz.prog w] (a : DFA) (k : DK) (ha : At w a k) (haa : a.next.length < 9223372036854775807) (haar : ∀ r ∈ a.next, r.length < 9223372036854775807) (haaf : a.final.length < 9223372036854775807) (v : Int) (he : vE a v ≠ 0) :
  PureT Tryz.prog 15 [dV a k, vI v] w fun r N => r = .tuple #[.bool false, vI (vE a v : Int)] ∧ N = [] := by
 refine CallT.enter func15 rfl ntmps15 rfl ?_
 refine T.s (T.rg (TO.l rfl (l_box (v := (dV a k)) (cs := (dC a k)) rfl rfl (fun bx1 => ?_))))
 refine TO.qa rfl (TO.qa rfl (TO.nl (T.s (T.rg (TO.q (q_la 0 uT25 rfl inf25 rfl rfl rfl) (TO.qm rfl ?_))))))
 have hk13 := fun (w1 : World) (hI : Inv w [oI bx1 25 (dC a k)] w1) => (haveI := tbz hI; (show PureT _ _ _ _ _ from by
   have h9 := wrongC w1 a k (hI.atB ha) haa haar haaf v 0 (.inl rfl)
   rw [wrE_zero] at h9
   exact h9))
 refine TO.l rfl (l_call ent41 (CallT.op hk13) rfl ?_)
 clear hk13
 rintro vr O' ⟨N, rfl, rfl, rfl⟩
 refine TO.qa rfl (TO.nl (T.s (T.s (T.rg (TO.qm rfl (TO.q (QT.toB (q_neq rfl rfl) (decide_eq_true (by omega))) (TO.nl ?_)))))))
 refine T.cond1 rfl ?_
 refine T.s (T.rg (TO.qm rfl (TO.qa rfl (TO.qa rfl (TO.nl (T.ret (Res.drop ?_)))))))
 refine Res.two (.bool false) (vI (vE a v : Int)) Tryz.results15 rfl rfl ?_
 exact ⟨[], Sub.z, rfl, rfl⟩
theorem rigOk (w : World) [Tab Tryz.prog w] (a : DFA) (k : DK) (ha : At w a k) (hv : Valid a) (v : Nat) (hva : (v : Int) < a.vars) {M : DFA} (hM : minD a = M) :
  PureT Tryz.prog 15 [dV a k, vI ((v : Nat) : Int)] w fun r N => r = .tuple #[.bool (ignB M v), vI 0] ∧ N = [] := by
 refine CallT.enter func15 rfl ntmps15 rfl ?_
 have he := checkD_zero.2 hv
 have h4 := hv.n4
 have hww : letN a ≤ 64 := hv.width
 have hfin := hv.fin
 have hvl := ha.rows.1
 have hsl := start_lt hv.toVal
 have hs0 := hv.s0
 have hs1 := hv.s1
 have hve : vE a v = 0 := vE_zero.2 ⟨hv, by omega, hva⟩
 have hMv : Valid M := hM ▸ minD_valid hv
 have hMs : M.vars = a.vars := by rw [← hM]; rfl
 have hv6 := hv.v6
 have hMn := hMv.n4
 have hlw : letN M ≤ 64 := hMv.width
 have hv5 : v < 6 := by omega
 refine T.s (T.rg (TO.l rfl (l_box (v := (dV a k)) (cs := (dC a k)) rfl rfl (fun z1 => ?_))))
 refine TO.qa rfl (TO.qa rfl (TO.nl (T.s (T.rg (TO.q (q_la 0 uT25 rfl inf25 rfl rfl rfl) (TO.qm rfl ?_))))))
 have hk13 := fun (w1 : World) (hI : Inv w [oI z1 25 (dC a k)] w1) => (haveI := tbz hI; (show PureT _ _ _ _ _ from by
   have h9 := wrongC w1 a k (hI.atB ha) (by omega) hv.bound (by omega) (v : Int) 0 (.inl rfl)
   rw [wrE_zero, hve] at h9
   exact h9))
 refine TO.l rfl (l_call ent41 (CallT.op hk13) rfl ?_)
 clear hk13
 rintro vr O' ⟨N, rfl, rfl, rfl⟩
 refine TO.qa rfl (TO.nl (T.s (T.s (T.rg (TO.qm rfl (TO.q (QT.toB (q_neq rfl rfl) (decide_eq_false (by omega))) (TO.nl (T.cond0 rfl (T.skip (T.s (T.rg (TO.q (q_la 0 uT25 rfl inf25 rfl rfl rfl) ?_))))))))))))
 have hk19 := fun (w1 : World) (hI : Inv w [oI z1 25 (dC a k)] w1) => (haveI := tbz hI; rMinKE w1 a k (hI.atB ha) hv (by omega) (M := M) hM)
 refine TO.l rfl (l_call ent45 (CallT.op hk19) rfl ?_)
 clear hk19
 rintro vr O' ⟨N, rfl, k9, rfl, rfl⟩
 refine TO.qm rfl (TO.q (q_extract (vs := _) rfl rfl) (TO.q (q_extract (vs := _) rfl rfl) (TO.l rfl (l_alloc inf25 rfl (fun z2 => ?_)))))
 refine TO.l rfl (l_sb (v := (dV M k9)) (vs := (dC M k9)) 0 inf25 rfl rfl rfl rfl rfl rfl (by simp [putL]) ?_)
 refine TO.qa rfl (TO.nl ?_)
 refine T.reset [oI z2 25 (dC M k9), dI 37 4 3 M k9, oI z1 25 (dC a k)] [(0, (dV a k)), (1, vI ((v : Nat) : Int)), (2, (.pointer (aD z1))), (4, .bool false), (5, vI 0), (6, vI 0), (7, (.pointer (aD z2)))] rfl (.of rfl) (fun ρ0 => ?_)
 refine T.s (T.s ?_)
 refine T.have (φ := nums k9.qs = M.next) (fun w9 hI => dI_nums hI (mG 1 rfl)) (fun hqs => ?_)
 have hvl9 : (vals k9.qs).length = M.next.length := by rw [← hqs]; simp
 refine T.rg (TO.qa rfl (TO.nl (T.block ?_)))
 refine T.loopS (fun (s : Nat) ρ O => O = [oI z2 25 (dC M k9), dI 37 4 3 M k9, oI z1 25 (dC a k)] ∧ s ≤ M.next.length ∧ (∀ s1, s1 < s → ∀ x, x < letN M → toN M s1 (c0 v x) = toN M s1 x) ∧ Heads [(0, (dV a k)), (1, vI ((v : Nat) : Int)), (2, (.pointer (aD z1))), (6, vI 0), (7, (.pointer (aD z2))), (9, vI ((s : Nat) : Int))] ρ) (fun s => M.next.length - s) 0 ?_ ?_
 ·exact ⟨rfl, Nat.zero_le _, fun s1 h => absurd h (by omega), (.of rfl)⟩
 rintro s ρ O ⟨rfl, hs, hall, hH⟩
 obtain ⟨ρ0, rfl⟩ := hH.elim
 clear hH
 refine T.s (T.s (T.rg (TO.qm rfl (TO.q (q_fa uT25 rfl inf22 rfl rfl) (TO.q (q_lb 0 uT22 rfl rfl rfl rfl) (TO.q (q_len uT22 rfl) (TO.q (q_lss rfl rfl) (TO.nl (T.condP rfl (fun hc => ?_) (fun hc => ?_))))))))))
 ·have hlt26 : s < M.next.length := by omega
  have hsl : s < M.next.length := by omega
  obtain ⟨q0, hq0, hz0⟩ := dk_row hqs hsl
  have hl1 : M.next[s].length = letN M := hMv.len _ (List.getElem_mem hsl)
  have hg9 : (vals k9.qs)[s]? = some (.slice q0.b M.next[s].length q0.c) := by rw [rvals_at hq0, hz0]
  refine T.skip (T.s (T.block (T.s (T.rg (TO.qa rfl (TO.nl (T.block ?_)))))))
  refine T.loopS (fun (x : Nat) ρ O => O = [oI z2 25 (dC M k9), dI 37 4 3 M k9, oI z1 25 (dC a k)] ∧ x ≤ M.next[s].length ∧ (∀ x1, x1 < x → toN M s (c0 v x1) = toN M s x1) ∧ Heads [(0, (dV a k)), (1, vI ((v : Nat) : Int)), (2, (.pointer (aD z1))), (6, vI 0), (7, (.pointer (aD z2))), (9, vI ((s : Nat) : Int)), (10, vI ((x : Nat) : Int))] ρ) (fun x => M.next[s].length - x) 0 ?_ ?_
  ·exact ⟨rfl, Nat.zero_le _, fun x1 h => absurd h (by omega), (.of rfl)⟩
  rintro x ρ O ⟨rfl, hx, hrow, hH⟩
  obtain ⟨ρ0, rfl⟩ := hH.elim
  clear hH
  refine T.s (T.s (T.rg (TO.qm rfl (TO.q (q_fa uT25 rfl inf22 rfl rfl) (TO.q (q_lb 0 uT22 rfl rfl rfl rfl) (TO.qm rfl (TO.q (q_ix (i := s) uT22 inf37 rfl rfl (dI_outer (mG 1 rfl)) hsl (hvl9 ▸ hsl)) (TO.q (q_ld uT37 rfl rfl (dI_outer (mG 1 rfl)) hg9) (TO.q (q_len uT37 rfl) (TO.q (q_lss rfl rfl) (TO.nl (T.condP rfl (fun hc => ?_) (fun hc => ?_)))))))))))))
  ·have hlt36 : x < M.next[s].length := by omega
   have hxl : x < letN M := by omega
   have hx64 : x < 64 := by omega
   obtain ⟨hto, _, hxk1, hx1⟩ := hMv.toN_lt hsl hxl
   have hx1 : (ints M.next[s])[x]? = some (vI ((toN M s x : Nat) : Int)) := by rw [ints_get hxk1, hx1]
   have hxc : c0 v x < letN M := c0_lt hxl
   obtain ⟨hto2, _, hxk2, hx2⟩ := hMv.toN_lt hsl hxc
   have hx2 : (ints M.next[s])[c0 v x]? = some (vI ((toN M s (c0 v x) : Nat) : Int)) := by rw [ints_get hxk2, hx2]
   refine T.skip (T.s (T.block (T.s ?_)))
   refine T.draws _ [(0, 0), (1, 0), (2, 0), (3, 0), (4, 0), (5, 0), (6, 0), (7, 0), (8, 0), (9, 0), (10, 0), (11, 0), (12, 0), (13, 0), (14, 0), (15, 0), (16, 1), (17, 0), (18, 0), (19, 0)] mixed (drawF_ok (by kernel_rfl)) (Sub.of (List.Sublist.refl _)) (fun _ _ _ h => h) ?_
   refine DO.q rfl (q_fa uT25 rfl inf22 rfl rfl) (DO.q rfl (q_lb 0 uT22 rfl rfl rfl rfl) (DO.q rfl (q_move rfl) (DO.q rfl (q_ix (i := s) uT22 inf37 rfl rfl (dI_outer (mG 1 rfl)) hsl (hvl9 ▸ hsl)) (DO.q rfl (q_ld uT37 rfl rfl (dI_outer (mG 1 rfl)) hg9) (DO.q rfl (q_move rfl) (DO.q rfl (q_ix (i := x) uT37 inf3 rfl rfl (dI_row (mG 1 rfl) hq0 hz0) hxk1 (by rw [List.length_map]; exact hxk1)) (DO.q rfl (q_ld uT3 rfl rfl (dI_row (mG 1 rfl) hq0 hz0) hx1) (DO.q rfl (q_fa uT25 rfl inf22 rfl rfl) (DO.q rfl (q_lb 0 uT22 rfl rfl rfl rfl) (DO.q rfl (q_move rfl) (DO.q rfl (q_ix (i := s) uT22 inf37 rfl rfl (dI_outer (mG 1 rfl)) hsl (hvl9 ▸ hsl)) (DO.q rfl (q_ld uT37 rfl rfl (dI_outer (mG 1 rfl)) hg9) (DO.q rfl (q_move rfl) (DO.q rfl (q_conv_id uT3 uT5 rfl (wrap8 (by omega))) (DO.q rfl (q_move rfl) ?_)))))))))))))))
   have hk55 := fun (w1 : World) (hI : Inv w [oI z2 25 (dC M k9), dI 37 4 3 M k9, oI z1 25 (dC a k)] w1) => (haveI := tbz hI; (show PureT _ _ _ _ _ from by
     have h9 := wthC w1 x v 0 hv5 hx64 (by decide)
     exact h9))
   refine DO.loud rfl rfl (l_call ent47 (CallT.op hk55) rfl ?_)
   clear hk55
   rintro vr O' ⟨N, rfl, rfl, rfl⟩
   refine ⟨by exact Sub.rf, ?_⟩
   refine DO.q rfl (q_ix (i := (c0 v x)) uT37 inf3 rfl rfl (dI_row (mG 1 rfl) hq0 hz0) hxk2 (by rw [List.length_map]; exact hxk2)) (DO.q rfl (q_ld uT3 rfl rfl (dI_row (mG 1 rfl) hq0 hz0) hx2) (DO.q rfl (q_neq rfl rfl) ?_))
   refine DO.done ?_
   refine T.condP rfl (fun hc => ?_) (fun hc => ?_)
   ·have hlt58 : toN M s x ≠ toN M s (c0 v x) := by omega
    refine T.s (T.rg (TO.qa rfl (TO.qa rfl (TO.nl (T.ret (Res.drop ?_))))))
    refine Res.two (.bool false) (vI 0) Tryz.results15 rfl rfl ?_
    rw [ign_no (m := M) (v := v) (by omega) (letN6 hMv.toVal) hsl hxl (.inl rfl) (by omega)]
    exact ⟨[], Sub.z, rfl, rfl⟩
   have hge58 : ¬ toN M s x ≠ toN M s (c0 v x) := by omega
   refine T.skip (T.rg (TO.qm rfl (TO.q (q_addN (a := x) (b := 1) rfl rfl (by omega)) (TO.qa rfl (TO.nl ?_)))))
   exact ⟨x + 1, by omega, [oI z2 25 (dC M k9), dI 37 4 3 M k9, oI z1 25 (dC a k)], (by exact Sub.rf), rfl, by omega, fun x1 h1 => (Nat.lt_succ_iff_lt_or_eq.1 h1).elim (fun h => hrow x1 h) (fun h => by rw [h]; omega), (.of rfl)⟩
  have hge36 : ¬ x < M.next[s].length := by omega
  refine T.exit ?_
  refine T.rg (TO.qm rfl (TO.q (q_addN (a := s) (b := 1) rfl rfl (by omega)) (TO.qa rfl (TO.nl ?_))))
  have hxe : x = letN M := by omega
  exact ⟨s + 1, by omega, [oI z2 25 (dC M k9), dI 37 4 3 M k9, oI z1 25 (dC a k)], (by exact Sub.rf), rfl, by omega, fun s1 h1 x1 hx1 => (Nat.lt_succ_iff_lt_or_eq.1 h1).elim (fun h => hall s1 h x1 hx1) (fun h => h ▸ hrow x1 (by omega)), (.of rfl)⟩
 have hge26 : ¬ s < M.next.length := by omega
 refine T.exit ?_
 refine T.s (T.rg (TO.qa rfl (TO.qa rfl (TO.nl (T.ret (Res.drop ?_))))))
 refine Res.two (.bool true) (vI 0) Tryz.results15 rfl rfl ?_
 rw [ign_yes (m := M) (v := v) (fun s1 h1 x1 hx1 => hall s1 (by omega) x1 hx1)]
 exact ⟨[], Sub.z, rfl, rfl⟩
theorem rigC (w : World) [Tab Tryz.prog w] (a : DFA) (k : DK) (ha : At w a k) (haa : a.next.length < 9223372036854775807) (haar : ∀ r ∈ a.next, r.length < 9223372036854775807) (haaf : a.final.length < 9223372036854775807) (v : Int) :
  PureT Tryz.prog 15 [dV a k, vI v] w fun r N => r = .tuple #[.bool (igV a v), vI (vE a v : Int)] ∧ N = [] := by
 by_cases he : vE a v = 0
 ·obtain ⟨hv, h0, h1⟩ := vE_zero.1 he
  obtain ⟨n, rfl⟩ : ∃ n : Nat, v = n := ⟨v.toNat, by omega⟩
  rw [igV_ok he, he]
  exact rigOk w a k ha hv n h1 rfl
 ·rw [igV_bad he]
  exact rigBad w a k ha haa haar haaf v he
end Go.Proofs.YtohkmggbfcnapaaGreatDoor


namespace Go.Lx
open Go.RowKit
def reR (a : DFA) (L : Nat) (im : Nat → Nat) (s : Nat) : List Int := (List.range (L)).map fun x => ((toN a s (im x) : Nat) : Int)
def reP (a : DFA) (L : Nat) (im : Nat → Nat) (s x : Nat) : List Int := (List.range (L)).map fun y => if y < x then ((toN a s (im y) : Nat) : Int) else 0
theorem reR_len (a : DFA) (L : Nat) (im : Nat → Nat) (s : Nat) : (reR a L im s).length = L := by simp [reR]
theorem reP_len (a : DFA) (L : Nat) (im : Nat → Nat) (s x : Nat) : (reP a L im s x).length = L := by simp [reP]
theorem reP_zero (a : DFA) (L : Nat) (im : Nat → Nat) (s : Nat) : List.replicate (L) (Value.int .i64 0) = ints (reP a L im s 0) := by
 apply List.ext_getElem (by simp [reP])
 intro i h1 h2
 simp [reP]
theorem reP_full (a : DFA) (L : Nat) (im : Nat → Nat) (s : Nat) : reP a L im s (L) = reR a L im s := by
 unfold reP reR
 refine List.map_congr_left fun y hy => ?_
 rw [if_pos (List.mem_range.1 hy)]
theorem reP_set {a : DFA} {L : Nat} {im : Nat → Nat} {s x : Nat} (hx : x < L) : (reP a L im s x).set x ((toN a s (im x) : Nat) : Int) = reP a L im s (x + 1) := by
 apply List.ext_getElem (by simp [reP])
 intro i h1 h2
 rw [List.getElem_set]
 simp only [reP, List.getElem_map, List.getElem_range]
 by_cases e : x = i
 ·subst e; simp
 ·by_cases h : i < x
  ·rw [if_neg e, if_pos h, if_pos (by omega)]
  ·rw [if_neg e, if_neg h, if_neg (by omega)]
theorem re_next (a : DFA) (m L : Nat) (im : Nat → Nat) (hL : 2 ^ m = L) : (reD a (m : Int) im).next = (List.range a.next.length).map (reR a L im) := by subst hL; rfl
end Go.Lx


namespace Go.Proofs.YtohkmggbfcnapaaGreatDoor
open Go.Lx Go.RowKit _root_.Go.Proofs.Tryz
theorem rinBad (w : World) [Tab Tryz.prog w] (a : DFA) (k : DK) (ha : At w a k) (haa : a.next.length < 9223372036854775807) (haar : ∀ r ∈ a.next, r.length < 9223372036854775807) (haaf : a.final.length < 9223372036854775807) (v : Int) (he : wrE a v 1 ≠ 0) :
  PureT Tryz.prog 24 [dV a k, vI v] w fun v9 N => v9 = .tuple #[dV noD ⟨none, 0, none, 0, []⟩, vI (wrE a v 1 : Int)] ∧ N = [] := by
 refine CallT.enter func24 rfl ntmps24 rfl ?_
 refine T.s (T.rg (TO.l rfl (l_box (v := (dV a k)) (cs := (dC a k)) rfl rfl (fun bx1 => ?_))))
 refine TO.l rfl (l_alloc inf25 rfl (fun bx2 => ?_))
 refine TO.qa rfl (TO.nl (T.s (T.rg (TO.q (q_la 1 uT25 rfl inf25 rfl rfl rfl) (TO.qm rfl ?_)))))
 have hk13 := fun (w1 : World) (hI : Inv w [oI bx2 25 [(vI 0), (vI 0), nS, nS], oI bx1 25 (dC a k)] w1) => (haveI := tbz hI; wrongC w1 a k (hI.atB ha) haa haar haaf v 1 (.inr rfl))
 refine TO.l rfl (l_call ent41 (CallT.op hk13) rfl ?_)
 clear hk13
 rintro vr O' ⟨N, rfl, rfl, rfl⟩
 refine TO.qa rfl (TO.nl (T.s (T.s (T.rg (TO.qm rfl (TO.q (QT.toB (q_neq rfl rfl) (decide_eq_true (by omega))) (TO.nl ?_)))))))
 refine T.cond1 rfl ?_
 refine T.s (T.rg (TO.q (q_build plan25 inf25 rfl) (TO.qm rfl (TO.l rfl (l_sb (v := (.agg #[(vI 0), (vI 0), nS, nS])) (vs := [(vI 0), (vI 0), nS, nS]) 0 inf25 rfl rfl rfl rfl rfl rfl (by simp [putL]) ?_)))))
 refine TO.qa rfl (TO.nl (T.ret (Res.drop ?_)))
 refine Res.cell1b (vI (wrE a v 1 : Int)) (i := 0) Tryz.results24 uT25 rfl inf25 rfl rfl rfl rfl ?_
 exact ⟨[], Sub.z, rfl, rfl⟩
theorem rinSix (w : World) [Tab Tryz.prog w] (a : DFA) (k : DK) (ha : At w a k) (haa : a.next.length < 9223372036854775807) (haar : ∀ r ∈ a.next, r.length < 9223372036854775807) (haaf : a.final.length < 9223372036854775807) (v : Int) (he : wrE a v 1 = 0) (h6 : a.vars = 6) :
  PureT Tryz.prog 24 [dV a k, vI v] w fun v9 N => v9 = .tuple #[dV noD ⟨none, 0, none, 0, []⟩, vI 7] ∧ N = [] := by
 refine CallT.enter func24 rfl ntmps24 rfl ?_
 refine T.s (T.rg (TO.l rfl (l_box (v := (dV a k)) (cs := (dC a k)) rfl rfl (fun bx1 => ?_))))
 refine TO.l rfl (l_alloc inf25 rfl (fun bx2 => ?_))
 refine TO.qa rfl (TO.nl (T.s (T.rg (TO.q (q_la 1 uT25 rfl inf25 rfl rfl rfl) (TO.qm rfl ?_)))))
 have hk13 := fun (w1 : World) (hI : Inv w [oI bx2 25 [(vI 0), (vI 0), nS, nS], oI bx1 25 (dC a k)] w1) => (haveI := tbz hI; (show PureT _ _ _ _ _ from by
   have h9 := wrongC w1 a k (hI.atB ha) haa haar haaf v 1 (.inr rfl)
   rw [he] at h9
   exact h9))
 refine TO.l rfl (l_call ent41 (CallT.op hk13) rfl ?_)
 clear hk13
 rintro vr O' ⟨N, rfl, rfl, rfl⟩
 refine TO.qa rfl (TO.nl (T.s (T.s (T.rg (TO.qm rfl (TO.q (QT.toB (q_neq rfl rfl) (decide_eq_false (fun h => h rfl))) (TO.nl (T.cond0 rfl (T.skip (T.s (T.s (T.rg (TO.q (q_fa uT25 rfl inf3 rfl rfl) (TO.q (q_lb 1 uT3 rfl rfl rfl rfl) (TO.q (QT.toB (q_eql rfl rfl) (decide_eq_true h6)) (TO.nl ?_))))))))))))))))
 refine T.cond1 rfl ?_
 refine T.s (T.rg (TO.q (q_build plan25 inf25 rfl) (TO.l rfl (l_sb (v := (.agg #[(vI 0), (vI 0), nS, nS])) (vs := [(vI 0), (vI 0), nS, nS]) 0 inf25 rfl rfl rfl rfl rfl rfl (by simp [putL]) ?_))))
 refine TO.qa rfl (TO.nl (T.ret (Res.drop ?_)))
 refine Res.cell1b (vI 7) (i := 0) Tryz.results24 uT25 rfl inf25 rfl rfl rfl rfl ?_
 exact ⟨[], Sub.z, rfl, rfl⟩
theorem rinOk (w : World) [Tab Tryz.prog w] (a : DFA) (k : DK) (ha : At w a k) (hv : Valid a) (v : Nat) (hva : (v : Int) ≤ a.vars) (h5 : a.vars < 6) {Z : DFA} (hZ : minD (reD a ((a.vars.toNat + 1 : Nat) : Int) (cut v)) = Z) :
  PureT Tryz.prog 24 [dV a k, vI ((v : Nat) : Int)] w fun v9 N => ∃ k8 : DK, v9 = .tuple #[dV Z k8, vI 0] ∧ N = [dI 37 4 3 Z k8] := by
 refine CallT.enter func24 rfl ntmps24 rfl ?_
 have he := checkD_zero.2 hv
 have h4 := hv.n4
 have hww : letN a ≤ 64 := hv.width
 have hfin := hv.fin
 have hvl := ha.rows.1
 have hsl := start_lt hv.toVal
 have hs0 := hv.s0
 have hs1 := hv.s1
 have hv6 := hv.v6
 have hv0 := hv.v0
 obtain ⟨m, hm⟩ : ∃ m : Nat, a.vars.toNat + 1 = m := ⟨_, rfl⟩
 rw [hm] at hZ
 have hwe : wrE a (v : Int) 1 = 0 := by unfold wrE; rw [he, if_neg (by decide), if_neg (by omega)]
 obtain ⟨L, hL⟩ : ∃ L, 2 ^ m = L := ⟨_, rfl⟩
 have hm64 : L ≤ 2 ^ 6 := by rw [← hL]; exact Nat.pow_le_pow_right (by decide) (by omega)
 have him : ∀ x, x < L → cut v x < letN a := fun x hx => cut_lt a.vars.toNat (by omega) v (by omega) x (by rw [hm, hL]; exact hx)
 refine T.s (T.rg (TO.l rfl (l_box (v := (dV a k)) (cs := (dC a k)) rfl rfl (fun z1 => ?_))))
 refine TO.l rfl (l_alloc inf25 rfl (fun z2 => ?_))
 refine TO.qa rfl (TO.nl (T.s (T.rg (TO.q (q_la 1 uT25 rfl inf25 rfl rfl rfl) (TO.qm rfl ?_)))))
 have hk13 := fun (w1 : World) (hI : Inv w [oI z2 25 [(vI 0), (vI 0), nS, nS], oI z1 25 (dC a k)] w1) => (haveI := tbz hI; (show PureT _ _ _ _ _ from by
   have h9 := wrongC w1 a k (hI.atB ha) (by omega) hv.bound (by omega) (v : Int) 1 (.inr rfl)
   rw [hwe] at h9
   exact h9))
 refine TO.l rfl (l_call ent41 (CallT.op hk13) rfl ?_)
 clear hk13
 rintro vr O' ⟨N, rfl, rfl, rfl⟩
 refine TO.qa rfl (TO.nl (T.s (T.s (T.rg (TO.qm rfl (TO.q (QT.toB (q_neq rfl rfl) (decide_eq_false (fun h => h rfl))) (TO.nl (T.cond0 rfl (T.skip (T.s (T.s (T.rg (TO.q (q_fa uT25 rfl inf3 rfl rfl) (TO.q (q_lb 1 uT3 rfl rfl rfl rfl) (TO.q (QT.toB (q_eql rfl rfl) (decide_eq_false (by omega))) (TO.nl ?_))))))))))))))))
 refine T.cond0 rfl (T.skip ?_)
 refine T.cut (fun ρ O => ∃ (tb cc : Nat) (cb : Option Addr), O = [oI tb 25 [(vI ((m : Nat) : Int)), (vI a.start), nS, (.slice cb a.final.length cc)], rowI cb cc 4 1 (bools a.final), oI z2 25 [(vI 0), (vI 0), nS, nS], oI z1 25 (dC a k)] ∧ Heads [(0, (dV a k)), (1, vI ((v : Nat) : Int)), (2, (.pointer (aD z1))), (4, (.pointer (aD z2))), (5, vI 0), (6, vI 0), (7, (.pointer (aD tb)))] ρ) ?_ ?_
 ·refine T.tree [oI z2 25 [(vI 0), (vI 0), nS, nS], oI z1 25 (dC a k)] 11 mixed rfl (by exact Sub.rf) (fun _ _ _ h => h) ?_
  refine RO.quietT 0 rfl (by kernel_rfl) (q_fa uT25 rfl inf3 rfl rfl) ?_
  refine RO.quietT 1 rfl (by kernel_rfl) (q_lb 1 uT3 rfl rfl rfl rfl) ?_
  refine RO.quietT 2 rfl (by kernel_rfl) (QT.cast (q_add64 rfl rfl (by omega)) (v' := vI ((m : Nat) : Int)) (congrArg (Value.int .i64) (by omega))) ?_
  refine RO.quietT 3 rfl (by kernel_rfl) (q_fa uT25 rfl inf3 rfl rfl) ?_
  refine RO.quietT 4 rfl (by kernel_rfl) (q_lb 1 uT3 rfl rfl rfl rfl) ?_
  refine RO.quietT 5 rfl (by kernel_rfl) (q_fa uT25 rfl inf23 rfl rfl) ?_
  refine RO.quietT 6 rfl (by kernel_rfl) (q_lb 1 uT23 rfl rfl rfl rfl) ?_
  have hk29 := fun (w1 : World) (hI : Inv w [oI z2 25 [(vI 0), (vI 0), nS, nS], oI z1 25 (dC a k)] w1) => (haveI := tbz hI; copyBools w1 k.fb k.fc a.final (hI.sl ha.final) (by omega))
  refine RO.fork [7, 9] (by kernel_rfl) rfl ⟨⟨_, rfl, rfl, l_call ent40 (CallT.op hk29) rfl ?_⟩, ⟨_, rfl, rfl, l_alloc inf25 rfl (fun tb => ⟨by exact Sub.d (.k (.k .z)), ?_⟩)⟩, trivial⟩
  ·clear hk29
   rintro vr O' ⟨N, rfl, cb, cc, rfl, rfl⟩
   refine ⟨by exact Sub.d (.k (.k .z)), ?_⟩
   refine RO.quietT 8 rfl (by kernel_rfl) (q_build (cs := [(vI ((m : Nat) : Int)), (vI a.start), nS, (.slice cb a.final.length cc)]) plan25 inf25 (by kernel_rfl)) ?_
   refine RO.fork [9] (by kernel_rfl) rfl ⟨⟨_, rfl, rfl, l_alloc inf25 rfl (fun tb => ⟨by exact Sub.d (.d (.k (.k .z))), ?_⟩)⟩, trivial⟩
   refine RO.fork [10] (by kernel_rfl) rfl ⟨⟨_, rfl, rfl, l_sb (v := (.agg #[(vI ((m : Nat) : Int)), (vI a.start), nS, (.slice cb a.final.length cc)])) (vs := [(vI ((m : Nat) : Int)), (vI a.start), nS, (.slice cb a.final.length cc)]) 0 inf25 rfl rfl rfl rfl rfl rfl (by simp [putL]) ⟨by exact Sub.d (.d (.k (.k .z))), ?_⟩⟩, trivial⟩
   exact RO.fin (by kernel_rfl) ⟨tb, cc, cb, rfl, (.of rfl)⟩ (by exact Sub.rf)
  have hk29 := fun (w1 : World) (hI : Inv w [oI tb 25 [(vI 0), (vI 0), nS, nS], oI z2 25 [(vI 0), (vI 0), nS, nS], oI z1 25 (dC a k)] w1) => (haveI := tbz hI; copyBools w1 k.fb k.fc a.final (hI.sl ha.final) (by omega))
  refine RO.fork [7] (by kernel_rfl) rfl ⟨⟨_, rfl, rfl, l_call ent40 (CallT.op hk29) rfl ?_⟩, trivial⟩
  clear hk29
  rintro vr O' ⟨N, rfl, cb, cc, rfl, rfl⟩
  refine ⟨by exact Sub.d (.d (.k (.k .z))), ?_⟩
  refine RO.quietT 8 rfl (by kernel_rfl) (q_build (cs := [(vI ((m : Nat) : Int)), (vI a.start), nS, (.slice cb a.final.length cc)]) plan25 inf25 (by kernel_rfl)) ?_
  refine RO.fork [10] (by kernel_rfl) rfl ⟨⟨_, rfl, rfl, l_sb (v := (.agg #[(vI ((m : Nat) : Int)), (vI a.start), nS, (.slice cb a.final.length cc)])) (vs := [(vI ((m : Nat) : Int)), (vI a.start), nS, (.slice cb a.final.length cc)]) 1 inf25 rfl rfl rfl rfl rfl rfl (by simp [putL]) ⟨by exact Sub.d (.d (.k (.k .z))), ?_⟩⟩, trivial⟩
  exact RO.fin (by kernel_rfl) ⟨tb, cc, cb, rfl, (.of rfl)⟩ (by exact Sub.pull [rowI cb cc 4 1 (bools a.final)] _ (.k (.k (.k .z))))
 rintro ρ O ⟨tb, cc, cb, rfl, hH⟩
 obtain ⟨ρ0, rfl⟩ := hH.elim
 clear hH
 refine T.s (T.s (T.rg (TO.qa rfl (TO.nl (T.block (T.nilRow 37 1 ?_))))))
 refine T.sub (O' := [oI tb 25 [(vI ((m : Nat) : Int)), (vI a.start), nS, (.slice cb a.final.length cc)], rowI none 0 37 1 [], rowI cb cc 4 1 (bools a.final), oI z1 25 (dC a k), oI z2 25 [(vI 0), (vI 0), nS, nS]]) (by exact Sub.pull [rowI none 0 37 1 []] _ (.k (.k (.pull [oI z2 25 [(vI 0), (vI 0), nS, nS]] _ (.k .z))))) ?_
 refine T.sub (O' := ([oI tb 25 [(vI ((m : Nat) : Int)), (vI a.start), nS, (.slice cb a.final.length cc)], rowI none 0 37 1 (vals []), rowI cb cc 4 1 (bools a.final), oI z1 25 (dC a k), oI z2 25 [(vI 0), (vI 0), nS, nS]] ++ (itms 3 []))) (Sub.ca []) ?_
 refine T.loop (fun (s : Nat) ρ O => ∃ (nb : Option Addr) (nc : Nat) (qs : List Rec), O = ([oI tb 25 [(vI ((m : Nat) : Int)), (vI a.start), (.slice nb s nc), (.slice cb a.final.length cc)], rowI nb nc 37 1 (vals qs), rowI cb cc 4 1 (bools a.final), oI z1 25 (dC a k), oI z2 25 [(vI 0), (vI 0), nS, nS]] ++ (itms 3 qs)) ∧ s ≤ a.next.length ∧ qs.length = s ∧ nums qs = (List.range s).map (reR a L (cut v)) ∧ Heads [(0, (dV a k)), (1, vI ((v : Nat) : Int)), (2, (.pointer (aD z1))), (4, (.pointer (aD z2))), (5, vI 0), (6, vI 0), (7, (.pointer (aD tb))), (8, vI ((s : Nat) : Int))] ρ) (fun s => a.next.length - s) 0 ?_ ?_
 ·exact ⟨none, 0, [], rfl, Nat.zero_le _, rfl, rfl, (.of rfl)⟩
 rintro s ρ O ⟨nb, nc, qs, rfl, hs, hql, hqs, hH⟩
 obtain ⟨ρ0, rfl⟩ := hH.elim
 clear hH
 refine T.s (T.s (T.rg (TO.qm rfl (TO.q (q_fa uT25 rfl inf22 rfl rfl) (TO.q (q_lb 3 uT22 rfl rfl rfl rfl) (TO.q (q_len uT22 rfl) (TO.q (q_lss rfl rfl) (TO.nl (T.condP rfl (fun hc => ?_) (fun hc => ?_))))))))))
 ·have hlt35 : s < a.next.length := by omega
  have hsl9 : s < a.next.length := by omega
  obtain ⟨v1, rc1, g1, s1⟩ := ha.rows.get hsl9
  have hl1 : a.next[s].length = letN a := hv.len _ (List.getElem_mem hsl9)
  refine T.skip (T.s (T.block (T.s (T.rg (TO.qa rfl (TO.nl (T.s (T.s (T.rg (TO.qa rfl (TO.nl (T.block (T.nilRow 3 1 ?_)))))))))))))
  refine T.sub (O' := ([oI tb 25 [(vI ((m : Nat) : Int)), (vI a.start), (.slice nb s nc), (.slice cb a.final.length cc)], rowI nb nc 37 1 (vals qs), rowI cb cc 4 1 (bools a.final), oI z1 25 (dC a k), oI z2 25 [(vI 0), (vI 0), nS, nS], rowI none 0 3 1 []] ++ (itms 3 qs))) (by exact Sub.pull [rowI none 0 3 1 []] _ (.pull [rowI none 0 3 1 []] _ (.pull [rowI none 0 3 1 []] _ (.pull [rowI none 0 3 1 []] _ (.pull [rowI none 0 3 1 []] _ (.k .rf)))))) ?_
  refine T.loopS (fun (x : Nat) ρ O => ∃ (rb : Option Addr) (rc : Nat), O = ([oI tb 25 [(vI ((m : Nat) : Int)), (vI a.start), (.slice nb s nc), (.slice cb a.final.length cc)], rowI nb nc 37 1 (vals qs), rowI cb cc 4 1 (bools a.final), oI z1 25 (dC a k), oI z2 25 [(vI 0), (vI 0), nS, nS], rowI rb rc 3 1 (ints (reR a x (cut v) s))] ++ (itms 3 qs)) ∧ x ≤ L ∧ Heads [(0, (dV a k)), (1, vI ((v : Nat) : Int)), (2, (.pointer (aD z1))), (4, (.pointer (aD z2))), (5, vI 0), (6, vI 0), (7, (.pointer (aD tb))), (8, vI ((s : Nat) : Int)), (9, (.slice rb x rc)), (10, vI ((x : Nat) : Int))] ρ) (fun x => L - x) 0 ?_ ?_
  ·exact ⟨none, 0, rfl, Nat.zero_le _, (.of rfl)⟩
  rintro x ρ O ⟨rb, rc, rfl, hx, hH⟩
  obtain ⟨ρ0, rfl⟩ := hH.elim
  clear hH
  refine T.s (T.s (T.rg (TO.qm rfl (TO.q (q_fa uT25 rfl inf3 rfl rfl) (TO.q (q_lb 3 uT3 rfl rfl rfl rfl) (TO.q (QT.cast (q_add64 rfl rfl (by omega)) (v' := vI ((m : Nat) : Int)) (congrArg (Value.int .i64) (by omega))) ?_))))))
  have hk42 := fun (w1 : World) (hI : Inv w ([oI tb 25 [(vI ((m : Nat) : Int)), (vI a.start), (.slice nb s nc), (.slice cb a.final.length cc)], rowI nb nc 37 1 (vals qs), rowI cb cc 4 1 (bools a.final), oI z1 25 (dC a k), oI z2 25 [(vI 0), (vI 0), nS, nS], rowI rb rc 3 1 (ints (reR a x (cut v) s))] ++ (itms 3 qs)) w1) => (haveI := tbz hI; (show PureT _ _ _ _ _ from by
    have h9 := lettersF w1 ((m : Nat) : Int) (by omega) (by omega)
    rw [show 2 ^ ((m : Nat) : Int).toNat = L from hL] at h9
    exact h9))
  refine TO.l rfl (l_call ent42 (CallT.op hk42) rfl ?_)
  clear hk42
  rintro vr O' ⟨N, rfl, rfl, rfl⟩
  refine TO.q (q_lss rfl rfl) (TO.nl (T.condP rfl (fun hc => ?_) (fun hc => ?_)))
  ·have hlt43 : x < L := by omega
   have hxl : x < L := by omega
   have hx64 : x < 64 := by omega
   obtain ⟨hto, _, hxk1, hx1⟩ := hv.toN_lt hsl9 (him x hxl)
   have hx1 : (ints a.next[s])[cut v x]? = some (vI ((toN a s (cut v x) : Nat) : Int)) := by rw [ints_get hxk1, hx1]
   have hrx : ints (reR a x (cut v) s) ++ [Value.int .i64 ((toN a s (cut v x) : Nat) : Int)] = ints (reR a (x + 1) (cut v) s) := by simp [reR, List.range_succ]
   refine T.skip (T.s (T.block ?_))
   refine T.draws _ [(0, 0), (1, 0), (2, 0), (3, 0), (4, 0), (5, 0), (6, 0), (7, 0), (8, 0), (9, 1), (10, 0), (11, 0), (12, 1), (13, 2), (14, 2)] mixed (drawF_ok (by kernel_rfl)) (Sub.of (List.Sublist.refl _)) (fun _ _ _ h => h) ?_
   refine DO.q rfl (q_move rfl) (DO.q rfl (q_fa uT25 rfl inf22 rfl rfl) (DO.q rfl (q_lb 3 uT22 rfl rfl rfl rfl) (DO.q rfl (q_move rfl) (DO.q rfl (q_ix (i := s) uT22 inf37 rfl rfl (Sl.o ha.outer) hsl9 (hvl ▸ hsl9)) (DO.q rfl (q_ld uT37 rfl rfl (Sl.o ha.outer) g1) (DO.q rfl (q_move rfl) (DO.q rfl (q_conv_id uT3 uT5 rfl (wrap8 (by omega))) (DO.q rfl (q_move rfl) ?_))))))))
   have hk55 := fun (w1 : World) (hI : Inv w ([oI tb 25 [(vI ((m : Nat) : Int)), (vI a.start), (.slice nb s nc), (.slice cb a.final.length cc)], rowI nb nc 37 1 (vals qs), rowI cb cc 4 1 (bools a.final), oI z1 25 (dC a k), oI z2 25 [(vI 0), (vI 0), nS, nS], rowI rb rc 3 1 (ints (reR a x (cut v) s))] ++ (itms 3 qs)) w1) => (haveI := tbz hI; cutC w1 x v (by omega) hx64)
   refine DO.loud rfl rfl (l_call ent59 (CallT.op hk55) rfl ?_)
   clear hk55
   rintro vr O' ⟨N, rfl, rfl, rfl⟩
   refine ⟨by exact Sub.rf, ?_⟩
   refine DO.q rfl (q_ix (i := (cut v x)) uT37 inf3 rfl rfl (Sl.o s1) hxk1 (by rw [List.length_map]; exact hxk1)) (DO.q rfl (q_ld uT3 rfl rfl (Sl.o s1) hx1) ?_)
   refine DO.loud rfl rfl (l_build1 (v := vI ((toN a s (cut v x) : Nat) : Int)) uT37 inf3 rfl rfl rfl (fun z3 => ⟨by exact Sub.d (.k (.k (.k (.k (.k (.k .rf)))))), ?_⟩))
   refine DO.last rfl rfl (l_append 6 uT37 uT37 inf3 rfl rfl rfl rfl (by rw [List.length_map, reR_len]; omega) (by decide) (Src.row (j := 0) rfl (by simp)) (by simp [oneB]) (by omega) (by decide) (by decide) (fun z4 zc5 => ?_))
   refine DO.last rfl rfl (LT.oq rfl rfl (q_assign rfl) ?_)
   refine DO.done ?_
   refine T.rg (TO.qm rfl (TO.q (q_addN (a := x) (b := 1) rfl rfl (by omega)) (TO.qa rfl (TO.nl ?_))))
   exact ⟨x + 1, by omega, ([oI tb 25 [(vI ((m : Nat) : Int)), (vI a.start), (.slice nb s nc), (.slice cb a.final.length cc)], rowI nb nc 37 1 (vals qs), rowI cb cc 4 1 (bools a.final), oI z1 25 (dC a k), oI z2 25 [(vI 0), (vI 0), nS, nS], rowI z4 zc5 3 1 ((ints (reR a x (cut v) s)) ++ [vI ((toN a s (cut v x) : Nat) : Int)])] ++ (itms 3 qs)), (by exact Sub.d (.k (.k (.k (.k (.k (.k .rf))))))), z4, zc5, by rw [hrx], by omega, (.of rfl)⟩
  have hge43 : ¬ x < L := by omega
  refine T.exit ?_
  refine T.rg (TO.q (q_fa uT25 rfl inf22 rfl rfl) (TO.q (q_lb 0 uT22 rfl rfl rfl rfl) (TO.qm rfl (TO.l rfl (l_build1 (v := (.slice rb x rc)) uT22 inf37 rfl rfl rfl (fun z6 => ?_))))))
  refine TO.l rfl (l_append 2 uT22 uT22 inf37 rfl rfl rfl rfl (by rw [List.length_map]; omega) (by decide) (Src.row (j := 0) rfl (by simp)) (by simp [oneB]) (by omega) (by decide) (by decide) (fun z7 zc8 => ?_))
  refine TO.q (q_fa uT25 rfl inf22 rfl rfl) (TO.l rfl (l_sb (v := (.slice z7 (s + 1) zc8)) (vs := [(.slice z7 (s + 1) zc8)]) 1 inf22 rfl rfl rfl rfl rfl rfl (by simp [putL]) ?_))
  refine TO.sub (O' := ([oI tb 25 [(vI ((m : Nat) : Int)), (vI a.start), (.slice z7 (s + 1) zc8), (.slice cb a.final.length cc)], rowI z7 zc8 37 1 ((vals qs) ++ [(.slice rb x rc)]), rowI cb cc 4 1 (bools a.final), oI z1 25 (dC a k), oI z2 25 [(vI 0), (vI 0), nS, nS], rowI rb rc 3 1 (ints (reR a x (cut v) s))] ++ (itms 3 qs))) (by exact Sub.d (.k (.k (.k (.k (.k (.k .rf))))))) ?_
  refine TO.nl ?_
  have hxe : L = x := by omega
  subst hxe
  have hvq : vals (qs ++ [⟨rb, rc, reR a L (cut v) s⟩]) = vals qs ++ [.slice rb L rc] := by simp [Rec.val, reR_len]
  refine T.sub (O' := ([oI tb 25 [(vI ((m : Nat) : Int)), (vI a.start), (.slice z7 (s + 1) zc8), (.slice cb a.final.length cc)], rowI z7 zc8 37 1 (vals (qs ++ [⟨rb, rc, reR a L (cut v) s⟩])), rowI cb cc 4 1 (bools a.final), oI z1 25 (dC a k), oI z2 25 [(vI 0), (vI 0), nS, nS]] ++ itms 3 (qs ++ [⟨rb, rc, reR a L (cut v) s⟩]))) (by rw [hvq]; exact Sub.foldN [oI tb 25 [(vI ((m : Nat) : Int)), (vI a.start), (.slice z7 (s + 1) zc8), (.slice cb a.final.length cc)], rowI z7 zc8 37 1 ((vals qs) ++ [(.slice rb L rc)]), rowI cb cc 4 1 (bools a.final), oI z1 25 (dC a k), oI z2 25 [(vI 0), (vI 0), nS, nS]] (rowI rb rc 3 1 (ints (reR a L (cut v) s))) (itms 3 qs) (itms 3 (qs ++ [⟨rb, rc, reR a L (cut v) s⟩])) (itms_snoc 3 qs ⟨rb, rc, reR a L (cut v) s⟩)) ?_
  refine T.rg (TO.qm rfl (TO.q (q_addN (a := s) (b := 1) rfl rfl (by omega)) (TO.qa rfl (TO.nl ?_))))
  exact ⟨s + 1, by omega, z7, zc8, qs ++ [⟨rb, rc, reR a L (cut v) s⟩], rfl, by omega, by simp [hql], by rw [List.range_succ, List.map_append, ← hqs]; simp, (.of rfl)⟩
 have hge35 : ¬ s < a.next.length := by omega
 refine T.exit ?_
 refine T.s ?_
 have hse : s = a.next.length := by omega
 obtain ⟨Tz, hT⟩ : ∃ T, T = reD a (m : Int) (cut v) := ⟨_, rfl⟩
 have e1 : nums qs = Tz.next := by rw [hT, hqs, hse, re_next a m L (cut v) hL]
 have e2 : a.final = Tz.final := by rw [hT]; rfl
 have e5 : Tz.next.length = s := by rw [hT, re_len, hse]
 have e6 : Tz.final.length = a.final.length := by rw [← e2]
 have hTv : Valid Tz := by rw [hT]; exact (HasL.re (HasL.of hv (Nat.le_refl _)) (by omega) (by omega) (fun x hx => him x (by rw [← hL]; exact hx))).valid
 obtain ⟨z9, hz9⟩ : ∃ z : DK, z = ⟨nb, nc, cb, cc, qs⟩ := ⟨_, rfl⟩
 refine T.sub (O' := (([rowI nb nc 37 1 (vals qs), rowI cb cc 4 1 (bools Tz.final)] ++ itms 3 qs) ++ [oI tb 25 [(vI ((m : Nat) : Int)), (vI a.start), (.slice nb Tz.next.length nc), (.slice cb Tz.final.length cc)], oI z1 25 (dC a k), oI z2 25 [(vI 0), (vI 0), nS, nS]])) (by rw [e5, e6, ← e2]; exact Sub.ca []) ?_
 refine T.pack (φ := nums qs = Tz.next) e1 ?_
 refine T.sub (O' := [dI 37 4 3 Tz z9, oI tb 25 (dC Tz z9), oI z1 25 (dC a k), oI z2 25 [(vI 0), (vI 0), nS, nS]]) (by subst hz9; unfold dC dfaCells; rw [hT]; exact Sub.rf) ?_
 refine T.rg (TO.q (q_la 1 uT25 rfl inf25 rfl rfl rfl) ?_)
 have hk67 := fun (w1 : World) (hI : Inv w [dI 37 4 3 Tz z9, oI tb 25 (dC Tz z9), oI z1 25 (dC a k), oI z2 25 [(vI 0), (vI 0), nS, nS]] w1) => (haveI := tbz hI; rMinKE w1 Tz z9 (hI.at (k := z9) (mG 0 rfl)) hTv (by omega) (M := Z) (by rw [hT]; exact hZ))
 refine TO.l rfl (l_call ent45 (CallT.op hk67) rfl ?_)
 clear hk67
 rintro vr O' ⟨N, rfl, k8, rfl, rfl⟩
 refine TO.q (q_extract (vs := _) rfl rfl) (TO.q (q_extract (vs := _) rfl rfl) (TO.l rfl (l_sb (v := (dV Z k8)) (vs := (dC Z k8)) 4 inf25 rfl rfl rfl rfl rfl rfl (by simp [putL]) ?_)))
 refine TO.qa rfl (TO.nl (T.ret (Res.drop ?_)))
 refine Res.cell1b (vI 0) (i := 4) Tryz.results24 uT25 rfl inf25 rfl rfl rfl rfl ?_
 exact ⟨[dI 37 4 3 Z k8], (by exact Sub.k .z), k8, rfl, rfl⟩
theorem rinC (w : World) [Tab Tryz.prog w] (a : DFA) (k : DK) (ha : At w a k) (haa : a.next.length < 9223372036854775807) (haar : ∀ r ∈ a.next, r.length < 9223372036854775807) (haaf : a.final.length < 9223372036854775807) (v : Int) :
  PureT Tryz.prog 24 [dV a k, vI v] w fun v9 N => ∃ k9 : DK, v9 = .tuple #[dV (inV a v) k9, vI (inE2 a v : Int)] ∧ N = [dI 37 4 3 (inV a v) k9] := by
 by_cases hw : wrE a v 1 ≠ 0
 ·have e1 : inE2 a v = wrE a v 1 := by
   unfold wrE at hw ⊢
   unfold inE2
   by_cases h : checkD a ≠ 0
   ·rw [if_pos h, if_pos h]
   ·rw [if_neg h] at hw ⊢
    rw [if_neg h]
    split at hw
    ·rw [if_pos (by omega), if_pos (by omega)]
    ·exact absurd rfl hw
  have e2 : inV a v = noD := by unfold inV; rw [if_neg (by omega)]
  rw [e1, e2]
  refine (CallT.nilD 37 4 3 (rinBad w a k ha haa haar haaf v hw)).mono ?_
  rintro v9 N ⟨O2, rfl, rfl, rfl⟩
  exact ⟨k00, rfl, rfl⟩
 ·have hw0 : wrE a v 1 = 0 := by omega
  have hc : checkD a = 0 := by
   unfold wrE at hw0
   by_cases h : checkD a ≠ 0
   ·rw [if_pos h] at hw0; exact hw0
   ·omega
  have hv : Valid a := checkD_zero.1 hc
  have hr : ¬ (v < 0 ∨ a.vars + 1 ≤ v) := by
   intro h
   unfold wrE at hw0
   rw [if_neg (by omega), if_pos h] at hw0
   cases hw0
  by_cases h6 : a.vars = 6
  ·have e1 : inE2 a v = 7 := by unfold inE2; rw [if_neg (by omega), if_pos (by omega)]
   have e2 : inV a v = noD := by unfold inV; rw [if_neg (by omega)]
   rw [e1, e2]
   refine (CallT.nilD 37 4 3 (rinSix w a k ha haa haar haaf v hw0 h6)).mono ?_
   rintro v9 N ⟨O2, rfl, rfl, rfl⟩
   exact ⟨k00, rfl, rfl⟩
  ·have hv0 := hv.v0
   have hv6 := hv.v6
   have e1 : inE2 a v = 0 := by unfold inE2; rw [if_neg (by omega), if_neg (by omega)]
   have e2 : inV a v = minD (reD a (a.vars + 1) (cut v.toNat)) := by unfold inV; rw [if_pos e1]
   rw [e1, e2]
   obtain ⟨n, rfl⟩ : ∃ n : Nat, v = n := ⟨v.toNat, by omega⟩
   exact rinOk w a k ha hv n (by omega) (by omega) (by rw [show ((a.vars.toNat + 1 : Nat) : Int) = a.vars + 1 by omega]; rfl)
theorem rdrBad (w : World) [Tab Tryz.prog w] (a : DFA) (k : DK) (ha : At w a k) (haa : a.next.length < 9223372036854775807) (haar : ∀ r ∈ a.next, r.length < 9223372036854775807) (haaf : a.final.length < 9223372036854775807) (v : Int) (he : vE a v ≠ 0) :
  PureT Tryz.prog 23 [dV a k, vI v] w fun v9 N => v9 = .tuple #[dV noD ⟨none, 0, none, 0, []⟩, vI (vE a v : Int)] ∧ N = [] := by
 refine CallT.enter func23 rfl ntmps23 rfl ?_
 refine T.s (T.rg (TO.l rfl (l_box (v := (dV a k)) (cs := (dC a k)) rfl rfl (fun bx1 => ?_))))
 refine TO.l rfl (l_alloc inf25 rfl (fun bx2 => ?_))
 refine TO.qa rfl (TO.nl (T.s (T.rg (TO.q (q_la 1 uT25 rfl inf25 rfl rfl rfl) (TO.qm rfl ?_)))))
 have hk17 := fun (w1 : World) (hI : Inv w [oI bx2 25 [(vI 0), (vI 0), nS, nS], oI bx1 25 (dC a k)] w1) => (haveI := tbz hI; rigC w1 a k (hI.atB ha) haa haar haaf v)
 refine TO.l rfl (l_call ent15 (CallT.op hk17) rfl ?_)
 clear hk17
 rintro vr O' ⟨N, rfl, rfl, rfl⟩
 refine TO.qm rfl (TO.q (q_extract (vs := _) rfl rfl) (TO.q (q_extract (vs := _) rfl rfl) (TO.qa rfl (TO.qa rfl (TO.nl (T.s (T.s (T.rg (TO.qm rfl (TO.q (QT.toB (q_neq rfl rfl) (decide_eq_true (by omega))) (TO.nl ?_)))))))))))
 refine T.cond1 rfl ?_
 refine T.s (T.rg (TO.q (q_build plan25 inf25 rfl) (TO.qm rfl (TO.l rfl (l_sb (v := (.agg #[(vI 0), (vI 0), nS, nS])) (vs := [(vI 0), (vI 0), nS, nS]) 0 inf25 rfl rfl rfl rfl rfl rfl (by simp [putL]) ?_)))))
 refine TO.qa rfl (TO.nl (T.ret (Res.drop ?_)))
 refine Res.cell1b (vI (vE a v : Int)) (i := 0) Tryz.results23 uT25 rfl inf25 rfl rfl rfl rfl ?_
 exact ⟨[], Sub.z, rfl, rfl⟩
theorem rdrNo (w : World) [Tab Tryz.prog w] (a : DFA) (k : DK) (ha : At w a k) (haa : a.next.length < 9223372036854775807) (haar : ∀ r ∈ a.next, r.length < 9223372036854775807) (haaf : a.final.length < 9223372036854775807) (v : Int) (he : vE a v = 0) (hi : igV a v = false) :
  PureT Tryz.prog 23 [dV a k, vI v] w fun v9 N => v9 = .tuple #[dV noD ⟨none, 0, none, 0, []⟩, vI 7] ∧ N = [] := by
 refine CallT.enter func23 rfl ntmps23 rfl ?_
 refine T.s (T.rg (TO.l rfl (l_box (v := (dV a k)) (cs := (dC a k)) rfl rfl (fun bx1 => ?_))))
 refine TO.l rfl (l_alloc inf25 rfl (fun bx2 => ?_))
 refine TO.qa rfl (TO.nl (T.s (T.rg (TO.q (q_la 1 uT25 rfl inf25 rfl rfl rfl) (TO.qm rfl ?_)))))
 have hk17 := fun (w1 : World) (hI : Inv w [oI bx2 25 [(vI 0), (vI 0), nS, nS], oI bx1 25 (dC a k)] w1) => (haveI := tbz hI; (show PureT _ _ _ _ _ from by
   have h9 := rigC w1 a k (hI.atB ha) haa haar haaf v
   rw [hi, he] at h9
   exact h9))
 refine TO.l rfl (l_call ent15 (CallT.op hk17) rfl ?_)
 clear hk17
 rintro vr O' ⟨N, rfl, rfl, rfl⟩
 refine TO.qm rfl (TO.q (q_extract (vs := _) rfl rfl) (TO.q (q_extract (vs := _) rfl rfl) (TO.qa rfl (TO.qa rfl (TO.nl (T.s (T.s (T.rg (TO.qm rfl (TO.q (QT.toB (q_neq rfl rfl) (decide_eq_false (fun h => h rfl))) (TO.nl (T.cond0 rfl (T.skip (T.s (T.s (T.rg (TO.qm rfl (TO.q (q_not rfl) ?_))))))))))))))))))
 refine TO.nl ?_
 refine T.cond1 rfl ?_
 refine T.s (T.rg (TO.q (q_build plan25 inf25 rfl) (TO.l rfl (l_sb (v := (.agg #[(vI 0), (vI 0), nS, nS])) (vs := [(vI 0), (vI 0), nS, nS]) 0 inf25 rfl rfl rfl rfl rfl rfl (by simp [putL]) ?_))))
 refine TO.qa rfl (TO.nl (T.ret (Res.drop ?_)))
 refine Res.cell1b (vI 7) (i := 0) Tryz.results23 uT25 rfl inf25 rfl rfl rfl rfl ?_
 exact ⟨[], Sub.z, rfl, rfl⟩
theorem rdrOk (w : World) [Tab Tryz.prog w] (a : DFA) (k : DK) (ha : At w a k) (hv : Valid a) (v : Nat) (hva : (v : Int) < a.vars) (hi : igV a v = true) {M Z : DFA} (hM : minD a = M) (m : Nat) (hm : a.vars = ((m + 1 : Nat) : Int)) (hZ : minD (reD M ((m : Nat) : Int) (drp v)) = Z) :
  PureT Tryz.prog 23 [dV a k, vI ((v : Nat) : Int)] w fun v9 N => ∃ k8 : DK, v9 = .tuple #[dV Z k8, vI 0] ∧ N = [dI 37 4 3 Z k8] := by
 refine CallT.enter func23 rfl ntmps23 rfl ?_
 have he := checkD_zero.2 hv
 have h4 := hv.n4
 have hww : letN a ≤ 64 := hv.width
 have hfin := hv.fin
 have hvl := ha.rows.1
 have hsl := start_lt hv.toVal
 have hs0 := hv.s0
 have hs1 := hv.s1
 have hv6 := hv.v6
 have hv0 := hv.v0
 have hve : vE a v = 0 := vE_zero.2 ⟨hv, by omega, hva⟩
 have hMv : Valid M := hM ▸ minD_valid hv
 have hMs : M.vars = a.vars := by rw [← hM]; rfl
 have hMn := hMv.n4
 have hmn : a.vars.toNat = m + 1 := by omega
 have hlM : letN M = 2 ^ (m + 1) := by unfold letN; rw [hMs, hmn]
 obtain ⟨L, hL⟩ : ∃ L, 2 ^ m = L := ⟨_, rfl⟩
 have hm64 : L ≤ 2 ^ 5 := by rw [← hL]; exact Nat.pow_le_pow_right (by decide) (by omega)
 have him : ∀ x, x < L → drp v x < letN M := fun x hx => by rw [hlM]; exact drp_lt m (by omega) v (by omega) x (by rw [hL]; exact hx)
 refine T.s (T.rg (TO.l rfl (l_box (v := (dV a k)) (cs := (dC a k)) rfl rfl (fun z1 => ?_))))
 refine TO.l rfl (l_alloc inf25 rfl (fun z2 => ?_))
 refine TO.qa rfl (TO.nl (T.s (T.rg (TO.q (q_la 1 uT25 rfl inf25 rfl rfl rfl) (TO.qm rfl ?_)))))
 have hk17 := fun (w1 : World) (hI : Inv w [oI z2 25 [(vI 0), (vI 0), nS, nS], oI z1 25 (dC a k)] w1) => (haveI := tbz hI; (show PureT _ _ _ _ _ from by
   have h9 := rigC w1 a k (hI.atB ha) (by omega) hv.bound (by omega) (v : Int)
   rw [hi, hve] at h9
   exact h9))
 refine TO.l rfl (l_call ent15 (CallT.op hk17) rfl ?_)
 clear hk17
 rintro vr O' ⟨N, rfl, rfl, rfl⟩
 refine TO.qm rfl (TO.q (q_extract (vs := _) rfl rfl) (TO.q (q_extract (vs := _) rfl rfl) (TO.qa rfl (TO.qa rfl (TO.nl ?_)))))
 refine T.reset [oI z2 25 [(vI 0), (vI 0), nS, nS], oI z1 25 (dC a k)] [(0, (dV a k)), (1, vI ((v : Nat) : Int)), (2, (.pointer (aD z1))), (4, (.pointer (aD z2))), (5, vI 0), (6, .bool true), (7, vI 0)] rfl (.of rfl) (fun ρ0 => ?_)
 refine T.s (T.s (T.rg (TO.qm rfl (TO.q (QT.toB (q_neq rfl rfl) (decide_eq_false (fun h => h rfl))) (TO.nl (T.cond0 rfl (T.skip (T.s (T.s (T.rg (TO.qm rfl (TO.q (q_not rfl) (TO.nl (T.cond0 rfl ?_))))))))))))))
 refine T.skip (T.s (T.rg (TO.q (q_la 1 uT25 rfl inf25 rfl rfl rfl) ?_)))
 have hk29 := fun (w1 : World) (hI : Inv w [oI z2 25 [(vI 0), (vI 0), nS, nS], oI z1 25 (dC a k)] w1) => (haveI := tbz hI; rMinKE w1 a k (hI.atB ha) hv (by omega) (M := M) hM)
 refine TO.l rfl (l_call ent45 (CallT.op hk29) rfl ?_)
 clear hk29
 rintro vr O' ⟨N, rfl, k9, rfl, rfl⟩
 refine TO.qm rfl (TO.q (q_extract (vs := _) rfl rfl) (TO.q (q_extract (vs := _) rfl rfl) (TO.l rfl (l_alloc inf25 rfl (fun z3 => ?_)))))
 refine TO.l rfl (l_sb (v := (dV M k9)) (vs := (dC M k9)) 0 inf25 rfl rfl rfl rfl rfl rfl (by simp [putL]) ?_)
 refine TO.qa rfl (TO.nl (T.s ?_))
 refine T.have (φ := nums k9.qs = M.next) (fun w9 hI => dI_nums hI (mG 1 rfl)) (fun hqs9 => ?_)
 have hvl9 : (vals k9.qs).length = M.next.length := by rw [← hqs9]; simp
 refine T.rg (TO.q (q_fa uT25 rfl inf3 rfl rfl) (TO.q (q_lb 3 uT3 rfl rfl rfl rfl) (TO.q (QT.cast (q_sub64 rfl rfl (by omega)) (v' := vI ((m : Nat) : Int)) (congrArg (Value.int .i64) (by omega))) (TO.q (q_fa uT25 rfl inf3 rfl rfl) (TO.q (q_lb 0 uT3 rfl rfl rfl rfl) (TO.q (q_fa uT25 rfl inf23 rfl rfl) (TO.q (q_lb 0 uT23 rfl rfl rfl rfl) (TO.q (q_build (cs := [(vI ((m : Nat) : Int)), (vI M.start), nS, (.slice k9.fb M.final.length k9.fc)]) plan25 inf25 (by kernel_rfl)) (TO.l rfl (l_alloc inf25 rfl (fun z4 => ?_)))))))))))
 refine TO.l rfl (l_sb (v := (.agg #[(vI ((m : Nat) : Int)), (vI M.start), nS, (.slice k9.fb M.final.length k9.fc)])) (vs := [(vI ((m : Nat) : Int)), (vI M.start), nS, (.slice k9.fb M.final.length k9.fc)]) 0 inf25 rfl rfl rfl rfl rfl rfl (by simp [putL]) ?_)
 refine TO.nl ?_
 refine T.reset [oI z4 25 [(vI ((m : Nat) : Int)), (vI M.start), nS, (.slice k9.fb M.final.length k9.fc)], oI z3 25 (dC M k9), dI 37 4 3 M k9, oI z2 25 [(vI 0), (vI 0), nS, nS], oI z1 25 (dC a k)] [(0, (dV a k)), (1, vI ((v : Nat) : Int)), (2, (.pointer (aD z1))), (4, (.pointer (aD z2))), (5, vI 0), (6, .bool true), (7, vI 0), (8, (.pointer (aD z3))), (10, (.pointer (aD z4)))] rfl (.of rfl) (fun ρ0 => ?_)
 refine T.s (T.s (T.rg (TO.qa rfl (TO.nl (T.block (T.nilRow 37 1 ?_))))))
 refine T.sub (O' := [oI z4 25 [(vI ((m : Nat) : Int)), (vI M.start), nS, (.slice k9.fb M.final.length k9.fc)], rowI none 0 37 1 [], dI 37 4 3 M k9, oI z3 25 (dC M k9), oI z1 25 (dC a k), oI z2 25 [(vI 0), (vI 0), nS, nS]]) (by exact Sub.pull [rowI none 0 37 1 []] _ (.k (.pull [oI z3 25 (dC M k9)] _ (.k (.pull [oI z2 25 [(vI 0), (vI 0), nS, nS]] _ (.k .z)))))) ?_
 refine T.sub (O' := ([oI z4 25 [(vI ((m : Nat) : Int)), (vI M.start), nS, (.slice k9.fb M.final.length k9.fc)], rowI none 0 37 1 (vals []), dI 37 4 3 M k9, oI z3 25 (dC M k9), oI z1 25 (dC a k), oI z2 25 [(vI 0), (vI 0), nS, nS]] ++ (itms 3 []))) (Sub.ca []) ?_
 have hMs2 : M.start = M.start := rfl
 refine T.loop (fun (s : Nat) ρ O => ∃ (nb : Option Addr) (nc : Nat) (qs : List Rec), O = ([oI z4 25 [(vI ((m : Nat) : Int)), (vI M.start), (.slice nb s nc), (.slice k9.fb M.final.length k9.fc)], rowI nb nc 37 1 (vals qs), dI 37 4 3 M k9, oI z3 25 (dC M k9), oI z1 25 (dC a k), oI z2 25 [(vI 0), (vI 0), nS, nS]] ++ (itms 3 qs)) ∧ s ≤ M.next.length ∧ qs.length = s ∧ nums qs = (List.range s).map (reR M L (drp v)) ∧ Heads [(0, (dV a k)), (1, vI ((v : Nat) : Int)), (2, (.pointer (aD z1))), (4, (.pointer (aD z2))), (5, vI 0), (6, .bool true), (7, vI 0), (8, (.pointer (aD z3))), (10, (.pointer (aD z4))), (11, vI ((s : Nat) : Int))] ρ) (fun s => M.next.length - s) 0 ?_ ?_
 ·exact ⟨none, 0, [], rfl, Nat.zero_le _, rfl, rfl, (.of rfl)⟩
 rintro s ρ O ⟨nb, nc, qs, rfl, hs, hql, hqs, hH⟩
 obtain ⟨ρ0, rfl⟩ := hH.elim
 clear hH
 refine T.s (T.s (T.rg (TO.qm rfl (TO.q (q_fa uT25 rfl inf22 rfl rfl) (TO.q (q_lb 3 uT22 rfl rfl rfl rfl) (TO.q (q_len uT22 rfl) (TO.q (q_lss rfl rfl) (TO.nl (T.condP rfl (fun hc => ?_) (fun hc => ?_))))))))))
 ·have hlt44 : s < M.next.length := by omega
  have hsl9 : s < M.next.length := by omega
  obtain ⟨q0, hq0, hz0⟩ := dk_row hqs9 hsl9
  have hl1 : M.next[s].length = letN M := hMv.len _ (List.getElem_mem hsl9)
  have hg9 : (vals k9.qs)[s]? = some (.slice q0.b M.next[s].length q0.c) := by rw [rvals_at hq0, hz0]
  refine T.skip (T.s (T.block (T.s (T.rg (TO.qa rfl (TO.nl (T.s (T.s (T.rg (TO.qa rfl (TO.nl (T.block (T.nilRow 3 1 ?_)))))))))))))
  refine T.sub (O' := ([oI z4 25 [(vI ((m : Nat) : Int)), (vI M.start), (.slice nb s nc), (.slice k9.fb M.final.length k9.fc)], rowI nb nc 37 1 (vals qs), dI 37 4 3 M k9, oI z3 25 (dC M k9), oI z1 25 (dC a k), oI z2 25 [(vI 0), (vI 0), nS, nS], rowI none 0 3 1 []] ++ (itms 3 qs))) (by exact Sub.pull [rowI none 0 3 1 []] _ (.pull [rowI none 0 3 1 []] _ (.pull [rowI none 0 3 1 []] _ (.pull [rowI none 0 3 1 []] _ (.pull [rowI none 0 3 1 []] _ (.pull [rowI none 0 3 1 []] _ (.k .rf))))))) ?_
  refine T.loopS (fun (x : Nat) ρ O => ∃ (rb : Option Addr) (rc : Nat), O = ([oI z4 25 [(vI ((m : Nat) : Int)), (vI M.start), (.slice nb s nc), (.slice k9.fb M.final.length k9.fc)], rowI nb nc 37 1 (vals qs), dI 37 4 3 M k9, oI z3 25 (dC M k9), oI z1 25 (dC a k), oI z2 25 [(vI 0), (vI 0), nS, nS], rowI rb rc 3 1 (ints (reR M x (drp v) s))] ++ (itms 3 qs)) ∧ x ≤ L ∧ Heads [(0, (dV a k)), (1, vI ((v : Nat) : Int)), (2, (.pointer (aD z1))), (4, (.pointer (aD z2))), (5, vI 0), (6, .bool true), (7, vI 0), (8, (.pointer (aD z3))), (10, (.pointer (aD z4))), (11, vI ((s : Nat) : Int)), (12, (.slice rb x rc)), (13, vI ((x : Nat) : Int))] ρ) (fun x => L - x) 0 ?_ ?_
  ·exact ⟨none, 0, rfl, Nat.zero_le _, (.of rfl)⟩
  rintro x ρ O ⟨rb, rc, rfl, hx, hH⟩
  obtain ⟨ρ0, rfl⟩ := hH.elim
  clear hH
  refine T.s (T.s (T.rg (TO.qm rfl (TO.q (q_fa uT25 rfl inf3 rfl rfl) (TO.q (q_lb 4 uT3 rfl rfl rfl rfl) (TO.q (QT.cast (q_sub64 rfl rfl (by omega)) (v' := vI ((m : Nat) : Int)) (congrArg (Value.int .i64) (by omega))) ?_))))))
  have hk51 := fun (w1 : World) (hI : Inv w ([oI z4 25 [(vI ((m : Nat) : Int)), (vI M.start), (.slice nb s nc), (.slice k9.fb M.final.length k9.fc)], rowI nb nc 37 1 (vals qs), dI 37 4 3 M k9, oI z3 25 (dC M k9), oI z1 25 (dC a k), oI z2 25 [(vI 0), (vI 0), nS, nS], rowI rb rc 3 1 (ints (reR M x (drp v) s))] ++ (itms 3 qs)) w1) => (haveI := tbz hI; (show PureT _ _ _ _ _ from by
    have h9 := lettersF w1 ((m : Nat) : Int) (by omega) (by omega)
    rw [show 2 ^ ((m : Nat) : Int).toNat = L from hL] at h9
    exact h9))
  refine TO.l rfl (l_call ent42 (CallT.op hk51) rfl ?_)
  clear hk51
  rintro vr O' ⟨N, rfl, rfl, rfl⟩
  refine TO.q (q_lss rfl rfl) (TO.nl (T.condP rfl (fun hc => ?_) (fun hc => ?_)))
  ·have hlt52 : x < L := by omega
   have hxl : x < L := by omega
   have hx32 : x < 32 := by omega
   obtain ⟨hto, _, hxk1, hx1⟩ := hMv.toN_lt hsl9 (him x hxl)
   have hx1 : (ints M.next[s])[drp v x]? = some (vI ((toN M s (drp v x) : Nat) : Int)) := by rw [ints_get hxk1, hx1]
   have hrx : ints (reR M x (drp v) s) ++ [Value.int .i64 ((toN M s (drp v x) : Nat) : Int)] = ints (reR M (x + 1) (drp v) s) := by simp [reR, List.range_succ]
   refine T.skip (T.s (T.block ?_))
   refine T.draws _ [(0, 0), (1, 0), (2, 0), (3, 0), (4, 0), (5, 0), (6, 0), (7, 0), (8, 0), (9, 1), (10, 0), (11, 0), (12, 1), (13, 2), (14, 2)] mixed (drawF_ok (by kernel_rfl)) (Sub.of (List.Sublist.refl _)) (fun _ _ _ h => h) ?_
   refine DO.q rfl (q_move rfl) (DO.q rfl (q_fa uT25 rfl inf22 rfl rfl) (DO.q rfl (q_lb 3 uT22 rfl rfl rfl rfl) (DO.q rfl (q_move rfl) (DO.q rfl (q_ix (i := s) uT22 inf37 rfl rfl (dI_outer (mG 2 rfl)) hsl9 (hvl9 ▸ hsl9)) (DO.q rfl (q_ld uT37 rfl rfl (dI_outer (mG 2 rfl)) hg9) (DO.q rfl (q_move rfl) (DO.q rfl (q_conv_id uT3 uT5 rfl (wrap8 (by omega))) (DO.q rfl (q_move rfl) ?_))))))))
   have hk64 := fun (w1 : World) (hI : Inv w ([oI z4 25 [(vI ((m : Nat) : Int)), (vI M.start), (.slice nb s nc), (.slice k9.fb M.final.length k9.fc)], rowI nb nc 37 1 (vals qs), dI 37 4 3 M k9, oI z3 25 (dC M k9), oI z1 25 (dC a k), oI z2 25 [(vI 0), (vI 0), nS, nS], rowI rb rc 3 1 (ints (reR M x (drp v) s))] ++ (itms 3 qs)) w1) => (haveI := tbz hI; putC w1 x v (by omega) hx32)
   refine DO.loud rfl rfl (l_call ent58 (CallT.op hk64) rfl ?_)
   clear hk64
   rintro vr O' ⟨N, rfl, rfl, rfl⟩
   refine ⟨by exact Sub.rf, ?_⟩
   refine DO.q rfl (q_ix (i := (drp v x)) uT37 inf3 rfl rfl (dI_row (mG 2 rfl) hq0 hz0) hxk1 (by rw [List.length_map]; exact hxk1)) (DO.q rfl (q_ld uT3 rfl rfl (dI_row (mG 2 rfl) hq0 hz0) hx1) ?_)
   refine DO.loud rfl rfl (l_build1 (v := vI ((toN M s (drp v x) : Nat) : Int)) uT37 inf3 rfl rfl rfl (fun z5 => ⟨by exact Sub.d (.k (.k (.k (.k (.k (.k (.k .rf))))))), ?_⟩))
   refine DO.last rfl rfl (l_append 7 uT37 uT37 inf3 rfl rfl rfl rfl (by rw [List.length_map, reR_len]; omega) (by decide) (Src.row (j := 0) rfl (by simp)) (by simp [oneB]) (by omega) (by decide) (by decide) (fun z6 zc7 => ?_))
   refine DO.last rfl rfl (LT.oq rfl rfl (q_assign rfl) ?_)
   refine DO.done ?_
   refine T.rg (TO.qm rfl (TO.q (q_addN (a := x) (b := 1) rfl rfl (by omega)) (TO.qa rfl (TO.nl ?_))))
   exact ⟨x + 1, by omega, ([oI z4 25 [(vI ((m : Nat) : Int)), (vI M.start), (.slice nb s nc), (.slice k9.fb M.final.length k9.fc)], rowI nb nc 37 1 (vals qs), dI 37 4 3 M k9, oI z3 25 (dC M k9), oI z1 25 (dC a k), oI z2 25 [(vI 0), (vI 0), nS, nS], rowI z6 zc7 3 1 ((ints (reR M x (drp v) s)) ++ [vI ((toN M s (drp v x) : Nat) : Int)])] ++ (itms 3 qs)), (by exact Sub.d (.k (.k (.k (.k (.k (.k (.k .rf)))))))), z6, zc7, by rw [hrx], by omega, (.of rfl)⟩
  have hge52 : ¬ x < L := by omega
  refine T.exit ?_
  refine T.rg (TO.q (q_fa uT25 rfl inf22 rfl rfl) (TO.q (q_lb 0 uT22 rfl rfl rfl rfl) (TO.qm rfl (TO.l rfl (l_build1 (v := (.slice rb x rc)) uT22 inf37 rfl rfl rfl (fun z8 => ?_))))))
  refine TO.l rfl (l_append 2 uT22 uT22 inf37 rfl rfl rfl rfl (by rw [List.length_map]; omega) (by decide) (Src.row (j := 0) rfl (by simp)) (by simp [oneB]) (by omega) (by decide) (by decide) (fun z9 zc10 => ?_))
  refine TO.q (q_fa uT25 rfl inf22 rfl rfl) (TO.l rfl (l_sb (v := (.slice z9 (s + 1) zc10)) (vs := [(.slice z9 (s + 1) zc10)]) 1 inf22 rfl rfl rfl rfl rfl rfl (by simp [putL]) ?_))
  refine TO.sub (O' := ([oI z4 25 [(vI ((m : Nat) : Int)), (vI M.start), (.slice z9 (s + 1) zc10), (.slice k9.fb M.final.length k9.fc)], rowI z9 zc10 37 1 ((vals qs) ++ [(.slice rb x rc)]), dI 37 4 3 M k9, oI z3 25 (dC M k9), oI z1 25 (dC a k), oI z2 25 [(vI 0), (vI 0), nS, nS], rowI rb rc 3 1 (ints (reR M x (drp v) s))] ++ (itms 3 qs))) (by exact Sub.d (.k (.k (.k (.k (.k (.k (.k .rf)))))))) ?_
  refine TO.nl ?_
  have hxe : L = x := by omega
  subst hxe
  have hvq : vals (qs ++ [⟨rb, rc, reR M L (drp v) s⟩]) = vals qs ++ [.slice rb L rc] := by simp [Rec.val, reR_len]
  refine T.sub (O' := ([oI z4 25 [(vI ((m : Nat) : Int)), (vI M.start), (.slice z9 (s + 1) zc10), (.slice k9.fb M.final.length k9.fc)], rowI z9 zc10 37 1 (vals (qs ++ [⟨rb, rc, reR M L (drp v) s⟩])), dI 37 4 3 M k9, oI z3 25 (dC M k9), oI z1 25 (dC a k), oI z2 25 [(vI 0), (vI 0), nS, nS]] ++ itms 3 (qs ++ [⟨rb, rc, reR M L (drp v) s⟩]))) (by rw [hvq]; exact Sub.foldN [oI z4 25 [(vI ((m : Nat) : Int)), (vI M.start), (.slice z9 (s + 1) zc10), (.slice k9.fb M.final.length k9.fc)], rowI z9 zc10 37 1 ((vals qs) ++ [(.slice rb L rc)]), dI 37 4 3 M k9, oI z3 25 (dC M k9), oI z1 25 (dC a k), oI z2 25 [(vI 0), (vI 0), nS, nS]] (rowI rb rc 3 1 (ints (reR M L (drp v) s))) (itms 3 qs) (itms 3 (qs ++ [⟨rb, rc, reR M L (drp v) s⟩])) (itms_snoc 3 qs ⟨rb, rc, reR M L (drp v) s⟩)) ?_
  refine T.rg (TO.qm rfl (TO.q (q_addN (a := s) (b := 1) rfl rfl (by omega)) (TO.qa rfl (TO.nl ?_))))
  exact ⟨s + 1, by omega, z9, zc10, qs ++ [⟨rb, rc, reR M L (drp v) s⟩], rfl, by omega, by simp [hql], by rw [List.range_succ, List.map_append, ← hqs]; simp, (.of rfl)⟩
 have hge44 : ¬ s < M.next.length := by omega
 refine T.exit ?_
 refine T.s ?_
 have hse : s = M.next.length := by omega
 obtain ⟨Tz, hT⟩ : ∃ T, T = reD M (m : Int) (drp v) := ⟨_, rfl⟩
 have e1 : nums qs = Tz.next := by rw [hT, hqs, hse, re_next M m L (drp v) hL]
 have e2 : M.final = Tz.final := by rw [hT]; rfl
 have e5 : Tz.next.length = s := by rw [hT, re_len, hse]
 have e6 : Tz.final.length = M.final.length := by rw [← e2]
 have hTv : Valid Tz := by rw [hT]; exact (HasL.re (HasL.of hMv (Nat.le_refl _)) (by omega) (by omega) (fun x hx => him x (by rw [← hL]; exact hx))).valid
 obtain ⟨z9, hz9⟩ : ∃ z : DK, z = ⟨nb, nc, k9.fb, k9.fc, qs⟩ := ⟨_, rfl⟩
 refine T.sub (O' := ([dI 37 4 3 M k9, oI z4 25 [(vI ((m : Nat) : Int)), (vI M.start), (.slice nb s nc), (.slice k9.fb M.final.length k9.fc)], rowI nb nc 37 1 (vals qs), oI z1 25 (dC a k), oI z2 25 [(vI 0), (vI 0), nS, nS], oI z3 25 (dC M k9)] ++ (itms 3 qs))) (by exact Sub.pull [oI z4 25 [(vI ((m : Nat) : Int)), (vI M.start), (.slice nb s nc), (.slice k9.fb M.final.length k9.fc)], rowI nb nc 37 1 (vals qs)] _ (.k (.k (.pull [oI z3 25 (dC M k9)] _ (.pull [oI z3 25 (dC M k9)] _ (.k .rf)))))) ?_
 refine T.unpack (fun hkq => ?_)
 refine T.sub (O' := (([rowI k9.nb k9.nc 37 1 (vals k9.qs), rowI k9.fb k9.fc 4 1 (bools M.final)] ++ itms 3 k9.qs) ++ ([oI z4 25 [(vI ((m : Nat) : Int)), (vI M.start), (.slice nb s nc), (.slice k9.fb M.final.length k9.fc)], rowI nb nc 37 1 (vals qs), oI z1 25 (dC a k), oI z2 25 [(vI 0), (vI 0), nS, nS], oI z3 25 (dC M k9)] ++ itms 3 qs))) (by exact Sub.rf) ?_
 refine T.sub (O' := (([rowI nb nc 37 1 (vals qs), rowI k9.fb k9.fc 4 1 (bools Tz.final)] ++ itms 3 qs) ++ [oI z4 25 [(vI ((m : Nat) : Int)), (vI M.start), (.slice nb Tz.next.length nc), (.slice k9.fb Tz.final.length k9.fc)], oI z1 25 (dC a k), oI z2 25 [(vI 0), (vI 0), nS, nS], oI z3 25 (dC M k9)])) (by rw [e5, e6, ← e2]; exact Sub.ca ([rowI k9.nb k9.nc 37 1 (vals k9.qs)] ++ itms 3 k9.qs)) ?_
 refine T.pack (φ := nums qs = Tz.next) e1 ?_
 refine T.sub (O' := [dI 37 4 3 Tz z9, oI z4 25 (dC Tz z9), oI z1 25 (dC a k), oI z2 25 [(vI 0), (vI 0), nS, nS], oI z3 25 (dC M k9)]) (by subst hz9; unfold dC dfaCells; rw [hT]; exact Sub.rf) ?_
 refine T.rg (TO.q (q_la 1 uT25 rfl inf25 rfl rfl rfl) ?_)
 have hk76 := fun (w1 : World) (hI : Inv w [dI 37 4 3 Tz z9, oI z4 25 (dC Tz z9), oI z1 25 (dC a k), oI z2 25 [(vI 0), (vI 0), nS, nS], oI z3 25 (dC M k9)] w1) => (haveI := tbz hI; rMinKE w1 Tz z9 (hI.at (k := z9) (mG 0 rfl)) hTv (by omega) (M := Z) (by rw [hT]; exact hZ))
 refine TO.l rfl (l_call ent45 (CallT.op hk76) rfl ?_)
 clear hk76
 rintro vr O' ⟨N, rfl, k8, rfl, rfl⟩
 refine TO.q (q_extract (vs := _) rfl rfl) (TO.q (q_extract (vs := _) rfl rfl) (TO.l rfl (l_sb (v := (dV Z k8)) (vs := (dC Z k8)) 4 inf25 rfl rfl rfl rfl rfl rfl (by simp [putL]) ?_)))
 refine TO.qa rfl (TO.nl (T.ret (Res.drop ?_)))
 refine Res.cell1b (vI 0) (i := 4) Tryz.results23 uT25 rfl inf25 rfl rfl rfl rfl ?_
 exact ⟨[dI 37 4 3 Z k8], (by exact Sub.k .z), k8, rfl, rfl⟩
theorem rdrC (w : World) [Tab Tryz.prog w] (a : DFA) (k : DK) (ha : At w a k) (haa : a.next.length < 9223372036854775807) (haar : ∀ r ∈ a.next, r.length < 9223372036854775807) (haaf : a.final.length < 9223372036854775807) (v : Int) :
  PureT Tryz.prog 23 [dV a k, vI v] w fun v9 N => ∃ k9 : DK, v9 = .tuple #[dV (drV a v) k9, vI (drE a v : Int)] ∧ N = [dI 37 4 3 (drV a v) k9] := by
 by_cases he : vE a v = 0
 ·cases hi : igV a v with
  | false =>
   obtain ⟨e1, e2⟩ := drE_no he hi
   rw [e1, e2]
   refine (CallT.nilD 37 4 3 (rdrNo w a k ha haa haar haaf v he hi)).mono ?_
   rintro v9 N ⟨O2, rfl, rfl, rfl⟩
   exact ⟨k00, rfl, rfl⟩
  | true =>
   obtain ⟨e1, e2⟩ := drE_ok he hi
   obtain ⟨hv, h0, h1⟩ := vE_zero.1 he
   have e3 := dr_min (HasL.of hv (Nat.le_refl _)) e1
   rw [e1, e3]
   have hv0 := hv.v0
   obtain ⟨n, rfl⟩ : ∃ n : Nat, v = n := ⟨v.toNat, by omega⟩
   obtain ⟨m, hm⟩ : ∃ m : Nat, a.vars = ((m + 1 : Nat) : Int) := ⟨a.vars.toNat - 1, by omega⟩
   exact rdrOk w a k ha hv n h1 hi rfl m hm (by rw [hm, show ((m + 1 : Nat) : Int) - 1 = (m : Int) by omega]; rfl)
 ·obtain ⟨e1, e2⟩ := drE_bad he
  rw [e1, e2]
  refine (CallT.nilD 37 4 3 (rdrBad w a k ha haa haar haaf v he)).mono ?_
  rintro v9 N ⟨O2, rfl, rfl, rfl⟩
  exact ⟨k00, rfl, rfl⟩
end Go.Proofs.YtohkmggbfcnapaaGreatDoor


namespace Go.Lx
open Go.RowKit
theorem or_add64 : ∀ a, a < 64 → ∀ p, p < 6 → a.testBit p = false → a ||| 2 ^ p = a + 2 ^ p := by decide +kernel
theorem PermN.ma_ltk {l : List Nat} {n k : Nat} (h : PermN l n) (x : Nat) (hk : k ≤ n) : maF l x k < 2 ^ n := by
 refine Nat.lt_pow_two_of_testBit _ fun i hi => ?_
 cases hb : (maF l x k).testBit i with
 | false => rfl
 | true =>
  obtain ⟨j, h1, h2, _⟩ := (maF_bit l x i k).1 hb
  have := h.at (k := j) (by omega); omega
theorem PermN.ma_step {l : List Nat} {n k : Nat} (h : PermN l n) (h6 : n ≤ 6) (x : Nat) (hk : k < n) : maF l x k + (x >>> k % 2) * 2 ^ (l.getD k 0) = maF l x (k + 1) := by
 have hp := h.at hk
 have hlt : maF l x k < 64 := Nat.lt_of_lt_of_le (h.ma_ltk x (Nat.le_of_lt hk)) (Nat.pow_le_pow_right (n := 2) (by decide) h6)
 have hb : x >>> k % 2 = if x.testBit k = true then 1 else 0 := by rw [← and_one, Nat.and_one_is_mod]
 rw [maF, hb]
 have hno : (maF l x k).testBit (l.getD k 0) = false := by
  cases hc : (maF l x k).testBit (l.getD k 0) with
  | false => rfl
  | true =>
   obtain ⟨j, h1, h2, _⟩ := (maF_bit l x _ k).1 hc
   have := h.inj (k := j) (j := k) (by omega) hk h2
   omega
 by_cases hx : x.testBit k = true
 ·rw [if_pos hx, if_pos hx, Nat.one_mul]; exact (or_add64 _ hlt _ (by omega) hno).symm
 ·rw [if_neg hx, if_neg hx, Nat.zero_mul]; simp
def rnP (a : DFA) (p : List Nat) (s x : Nat) : List Int := (List.range (letN a)).map fun y => if imF p y p.length < x then ((toN a s (imF p y p.length) : Nat) : Int) else ((toN a s y : Nat) : Int)
theorem rnP_len (a : DFA) (p : List Nat) (s x : Nat) : (rnP a p s x).length = letN a := by simp [rnP]
theorem rnP_zero {a : DFA} (hv : Valid a) (p : List Nat) {s : Nat} (hs : s < a.next.length) : rnP a p s 0 = a.next[s] := by
 have hl : a.next[s].length = letN a := hv.len _ (List.getElem_mem hs)
 apply List.ext_getElem (by rw [rnP_len, hl])
 intro y h1 h2
 have hy : y < letN a := by rw [rnP_len] at h1; exact h1
 simp only [rnP, List.getElem_map, List.getElem_range, Nat.not_lt_zero, if_false]
 obtain ⟨_, _, _, h⟩ := hv.toN_lt hs hy
 exact h.symm
theorem rnP_full {a : DFA} {p : List Nat} {s : Nat} (hl : 2 ^ p.length = letN a) : rnP a p s (letN a) = reR a (letN a) (fun y => imF p y p.length) s := by
 unfold rnP reR
 refine List.map_congr_left fun y hy => ?_
 rw [if_pos (by rw [← hl]; exact imF_lt _ _ _)]
theorem rnP_set {a : DFA} {p : List Nat} {s x : Nat} (hp : PermN p p.length) (hl : 2 ^ p.length = letN a) (hx : x < letN a) : (rnP a p s x).set (maF p x p.length) ((toN a s x : Nat) : Int) = rnP a p s (x + 1) := by
 apply List.ext_getElem (by simp [rnP])
 intro y h1 h2
 have hy : y < letN a := by rw [rnP_len] at h2; exact h2
 have hx2 : x < 2 ^ p.length := by rw [hl]; exact hx
 have hy2 : y < 2 ^ p.length := by rw [hl]; exact hy
 rw [List.getElem_set]
 simp only [rnP, List.getElem_map, List.getElem_range]
 have key : maF p x p.length = y ↔ imF p y p.length = x := by
  constructor
  ·rintro rfl; exact hp.im_ma hx2
  ·rintro rfl; exact hp.ma_im hy2
 by_cases e : maF p x p.length = y
 ·have e2 := key.1 e
  rw [if_pos e, if_pos (by omega), e2]
 ·have e2 : imF p y p.length ≠ x := fun h => e (key.2 h)
  by_cases h : imF p y p.length < x
  ·rw [if_neg e, if_pos h, if_pos (by omega)]
  ·rw [if_neg e, if_neg h, if_neg (by omega)]
theorem re_nextV {a : DFA} (hv : Valid a) (im : Nat → Nat) : (reD a a.vars im).next = (List.range a.next.length).map (reR a (letN a) im) := rfl
theorem Sl.itake {w : World} {b : Option Addr} {xs : List Int} (h : Sl w b (ints xs)) (m : Nat) : Sl w b (ints (xs.take m)) := fun i hi => by
 have hi' : i < xs.length := by rw [List.length_map, List.length_take] at hi; omega
 obtain ⟨a, h1, h2, h3⟩ := h i (by simpa using hi')
 exact ⟨a, h1, h2, by rw [h3]; simp⟩
theorem perm_no {l : List Int} {n : Int} (h : ¬ (PermZ l n.toNat ∧ 0 ≤ n)) : permB l n = false := by
 cases hb : permB l n with
 | false => rfl
 | true => exact absurd (permB_iff.1 hb) h
theorem perm_bad {l : List Int} {n : Int} {i : Nat} {x : Int} (hx : l[i]? = some x) (h : x < 0 ∨ n ≤ x ∨ x ∈ l.take i) : permB l n = false := by
 refine perm_no fun ⟨⟨h1, h2, h3⟩, h0⟩ => ?_
 have hm := h3 x (List.mem_of_getElem? hx)
 rcases h with h | h | h
 ·omega
 ·omega
 ·obtain ⟨j, hj, e⟩ := List.mem_iff_getElem.1 h
  obtain ⟨hi, e2⟩ := List.getElem?_eq_some_iff.1 hx
  rw [List.length_take] at hj
  rw [List.getElem_take] at e
  have := (List.getElem_inj (h₀ := show j < l.length by omega) (h₁ := hi) h2).1 (by rw [e, e2])
  omega
theorem perm_ok {l : List Int} {n : Int} (h0 : 0 ≤ n) (h : ∀ j (x : Int), l[j]? = some x → 0 ≤ x ∧ x < n ∧ x ∉ l.take j) : permB l n = decide ((l.length : Int) = n) := by
 by_cases hl : (l.length : Int) = n
 ·rw [decide_eq_true hl]
  refine permB_iff.2 ⟨⟨by omega, ?_, fun p hp => ?_⟩, h0⟩
  ·refine List.pairwise_iff_getElem.2 fun i j hi hj hij e => ?_
   have := (h j l[j] (List.getElem?_eq_getElem hj)).2.2
   exact this (List.mem_iff_getElem.2 ⟨i, by rw [List.length_take]; omega, by rw [List.getElem_take]; exact e⟩)
  ·obtain ⟨j, hj⟩ := List.mem_iff_getElem?.1 hp
   have := h j p hj; omega
 ·rw [decide_eq_false hl]
  exact perm_no fun ⟨⟨h1, _, _⟩, _⟩ => hl (by omega)
end Go.Lx


namespace Go.Proofs.YtohkmggbfcnapaaGreatDoor
open Go.Lx Go.RowKit _root_.Go.Proofs.Tryz
theorem mapC (w : World) [Tab Tryz.prog w] (x : Nat) (hx : x < 64) (pb : Option Addr) (pc : Nat) (p : List Nat) (hs : Sl w pb (intN p)) (hp : PermN p p.length) (h6 : p.length ≤ 6) :
  PureT Tryz.prog 61 [.int .u8 ((x : Nat) : Int), .slice pb p.length pc] w fun r N => r = .int .u8 ((maF p x p.length : Nat) : Int) ∧ N = [] := by
 refine CallT.enter func61 rfl ntmps61 rfl ?_
 have hxx : x < 256 := by omega
 refine T.s (T.rg (TO.qa rfl (TO.nl (T.s (T.rg (TO.qa rfl (TO.nl (T.s (T.s (T.rg (TO.qa rfl (TO.nl (T.block ?_)))))))))))))
 refine T.loop (fun (i : Nat) ρ O => O = [] ∧ i ≤ p.length ∧ Heads [(0, .int .u8 ((x : Nat) : Int)), (1, (.slice pb p.length pc)), (4, .int .u8 0), (5, vI ((maF p x i : Nat) : Int)), (6, vI ((i : Nat) : Int))] ρ) (fun i => p.length - i) 0 ?_ ?_
 ·exact ⟨rfl, Nat.zero_le _, (.of rfl)⟩
 rintro i ρ O ⟨rfl, hi, hH⟩
 obtain ⟨ρ0, rfl⟩ := hH.elim
 clear hH
 refine T.s (T.s (T.rg (TO.qm rfl (TO.qm rfl (TO.q (q_len uT37 rfl) (TO.q (q_lss rfl rfl) (TO.nl (T.condP rfl (fun hc => ?_) (fun hc => ?_)))))))))
 ·have hlt10 : i < p.length := by omega
  have hil : i < p.length := by omega
  have hpl := hp.lt _ (List.getElem_mem hil)
  have hgd : p.getD i 0 = p[i] := by rw [List.getD_eq_getElem?_getD, List.getElem?_eq_getElem hil]; rfl
  have hst := hp.ma_step h6 x hil
  rw [hgd] at hst
  have hm1 := hp.ma_ltk x (show i ≤ p.length by omega)
  have hm2 := hp.ma_ltk x (show i + 1 ≤ p.length by omega)
  have h64 : 2 ^ p.length ≤ 2 ^ 6 := Nat.pow_le_pow_right (by decide) h6
  have hpw : 2 ^ p[i] ≤ 2 ^ 5 := Nat.pow_le_pow_right (by decide) (by omega)
  have hb2 : x >>> i % 2 < 2 := Nat.mod_lt _ (by decide)
  have hmul : (x >>> i % 2) * 2 ^ p[i] ≤ 1 * 2 ^ p[i] := Nat.mul_le_mul_right _ (by omega)
  refine T.skip (T.s (T.block ?_))
  refine T.draws _ [(0, 0), (1, 0), (2, 0), (4, 0), (5, 0), (6, 0), (7, 0), (8, 0), (3, 1), (9, 0), (10, 0), (11, 0)] mixed (drawF_ok (by kernel_rfl)) (Sub.of (List.Sublist.refl _)) (fun _ _ _ h => h) ?_
  refine DO.q rfl (q_move rfl) (DO.q rfl (q_move rfl) (DO.q rfl (q_move rfl) (DO.q rfl (q_move rfl) (DO.q rfl (q_move rfl) (DO.q rfl (q_ix (i := i) uT37 inf3 rfl rfl (Sl.o hs) hil (by rw [List.length_map]; exact hil)) (DO.q rfl (q_ld uT3 rfl rfl (Sl.o hs) (intN_get hil)) (DO.q rfl (q_conv_id uT3 uT52 rfl (by first | rfl | exact wrapU64 (by omega))) ?_)))))))
  have hk16 := fun (w1 : World) (hI : Inv w [] w1) => (haveI := tbz hI; bitC w1 x i (by omega) hx)
  refine DO.loud rfl rfl (l_call ent83 (CallT.op hk16) rfl ?_)
  clear hk16
  rintro vr O' ⟨N, rfl, rfl, rfl⟩
  refine ⟨by exact Sub.rf, ?_⟩
  refine DO.q rfl (q_shlI (a := x >>> i % 2) (b := p[i]) rfl rfl (by omega) (by omega)) (DO.q rfl (QT.cast (q_addN (a := maF p x i) (b := (x >>> i % 2) * 2 ^ p[i]) rfl rfl (by omega)) (v' := vI ((maF p x (i + 1) : Nat) : Int)) (by rw [hst])) (DO.q rfl (q_assign rfl) ?_))
  refine DO.done ?_
  refine T.rg (TO.qm rfl (TO.q (q_addN (a := i) (b := 1) rfl rfl (by omega)) (TO.qa rfl (TO.nl ?_))))
  exact ⟨i + 1, by omega, rfl, by omega, (.of rfl)⟩
 have hge10 : ¬ i < p.length := by omega
 refine T.exit ?_
 refine T.s ?_
 have hie : i = p.length := by omega
 subst hie
 have hm3 := hp.ma_lt x
 have h64 : 2 ^ p.length ≤ 2 ^ 6 := Nat.pow_le_pow_right (by decide) h6
 refine T.rg (TO.qm rfl (TO.q (q_conv_id uT3 uT5 rfl (wrap8 (by omega))) (TO.qa rfl (TO.nl (T.ret (Res.drop ?_))))))
 refine Res.one (.int .u8 ((maF p x p.length : Nat) : Int)) Tryz.results61 rfl ?_
 exact ⟨[], Sub.z, rfl, rfl⟩
theorem renamC (w : World) [Tab Tryz.prog w] (pb : Option Addr) (pc : Nat) (l : List Int) (hs : Sl w pb (ints l)) (hll : l.length < 1000000) (hpc : l.length ≤ pc) (n : Int) (h0 : 0 ≤ n) :
  PureT Tryz.prog 60 [.slice pb l.length pc, vI n] w fun r N => r = .bool (permB l n) ∧ N = [] := by
 refine CallT.enter func60 rfl ntmps60 rfl ?_
 refine T.s (T.rg (TO.qa rfl (TO.nl (T.s (T.s (T.rg (TO.qa rfl (TO.nl (T.block ?_)))))))))
 refine T.loop (fun (i : Nat) ρ O => O = [] ∧ i ≤ l.length ∧ (∀ j (x : Int), j < i → l[j]? = some x → 0 ≤ x ∧ x < n ∧ x ∉ l.take j) ∧ Heads [(0, (.slice pb l.length pc)), (1, vI n), (5, vI ((i : Nat) : Int))] ρ) (fun i => l.length - i) 0 ?_ ?_
 ·exact ⟨rfl, Nat.zero_le _, fun j x h => absurd h (by omega), ⟨rfl, rfl, rfl, trivial⟩⟩
 rintro i ρ O ⟨rfl, hi, hall, hH⟩
 obtain ⟨ρ0, rfl⟩ := hH.elim
 clear hH
 refine T.s (T.s (T.rg (TO.qm rfl (TO.qm rfl (TO.q (q_len uT37 rfl) (TO.q (q_lss rfl rfl) (TO.nl (T.condP rfl (fun hc => ?_) (fun hc => ?_)))))))))
 ·have hlt9 : i < l.length := by omega
  have hil : i < l.length := by omega
  obtain ⟨x, hxi0⟩ : ∃ x, l[i]? = some x := ⟨_, List.getElem?_eq_getElem hil⟩
  have hxi : (ints l)[i]? = some (vI x) := by rw [List.getElem?_map, hxi0]; rfl
  refine T.skip (T.s (T.block (T.s ?_)))
  refine T.draws _ [(0, 0), (1, 0), (2, 0), (3, 0), (4, 0), (5, 0), (6, 0), (7, 0), (8, 0), (9, 0), (10, 0), (11, 0), (12, 0), (13, 0), (14, 0), (15, 0), (16, 0), (17, 0), (18, 0), (19, 0), (20, 0), (21, 2), (22, 2)] mixed (drawF_ok (by kernel_rfl)) (Sub.of (List.Sublist.refl _)) (fun _ _ _ h => h) ?_
  refine DO.q rfl (q_move rfl) (DO.q rfl (q_move rfl) (DO.q rfl (q_ix (i := i) uT37 inf3 rfl rfl (Sl.o hs) hil (by rw [List.length_map]; exact hil)) (DO.q rfl (q_ld uT3 rfl rfl (Sl.o hs) hxi) (DO.q rfl (q_lss rfl rfl) ?_))))
  by_cases hs17 : x < 0
  ·refine DO.q rfl (QT.toB (q_move rfl) (decide_eq_true hs17)) ?_
   refine DO.passed rfl rfl rfl (DO.passed rfl rfl rfl (DO.passed rfl rfl rfl (DO.passed rfl rfl rfl (DO.passed rfl rfl rfl (DO.passed rfl rfl rfl (DO.q rfl (q_pick1 rfl rfl) (DO.q rfl (q_move rfl) (DO.passed rfl rfl rfl ?_))))))))
   refine DO.passed rfl rfl rfl (DO.passed rfl rfl rfl (DO.passed rfl rfl rfl (DO.passed rfl rfl rfl (DO.passed rfl rfl rfl (DO.passed rfl rfl rfl ?_)))))
   refine DO.passedL (by decide) rfl rfl rfl rfl rfl ?_
   refine DO.last rfl rfl (LT.oq rfl rfl (q_pick1 rfl rfl) ?_)
   refine DO.done ?_
   refine T.cond1 rfl ?_
   refine T.s (T.rg (TO.qa rfl (TO.nl (T.ret (Res.drop ?_)))))
   refine Res.one (.bool false) Tryz.results60 rfl ?_
   exact ⟨[], Sub.z, congrArg Value.bool (perm_bad hxi0 (by simp_all)).symm, rfl⟩
  refine DO.q rfl (QT.toB (q_move rfl) (decide_eq_false hs17)) ?_
  refine DO.guarded rfl rfl rfl (q_move rfl) ?_
  refine DO.guarded rfl rfl rfl (q_move rfl) ?_
  refine DO.guarded rfl rfl rfl (q_ix (i := i) uT37 inf3 rfl rfl (Sl.o hs) hil (by rw [List.length_map]; exact hil)) ?_
  refine DO.guarded rfl rfl rfl (q_ld uT3 rfl rfl (Sl.o hs) hxi) ?_
  refine DO.guarded rfl rfl rfl (q_move rfl) ?_
  refine DO.guarded rfl rfl rfl (q_geq rfl rfl) ?_
  refine DO.q rfl (q_pick0 rfl rfl) ?_
  by_cases hs25 : x ≥ n
  ·refine DO.q rfl (QT.toB (q_move rfl) (decide_eq_true hs25)) ?_
   refine DO.passed rfl rfl rfl (DO.passed rfl rfl rfl (DO.passed rfl rfl rfl (DO.passed rfl rfl rfl (DO.passed rfl rfl rfl (DO.passed rfl rfl rfl (DO.passed rfl rfl rfl ?_))))))
   refine DO.passedL (by decide) rfl rfl rfl rfl rfl ?_
   refine DO.last rfl rfl (LT.oq rfl rfl (q_pick1 rfl rfl) ?_)
   refine DO.done ?_
   refine T.cond1 rfl ?_
   refine T.s (T.rg (TO.qa rfl (TO.nl (T.ret (Res.drop ?_)))))
   refine Res.one (.bool false) Tryz.results60 rfl ?_
   exact ⟨[], Sub.z, congrArg Value.bool (perm_bad hxi0 (by simp_all)).symm, rfl⟩
  refine DO.q rfl (QT.toB (q_move rfl) (decide_eq_false hs25)) ?_
  refine DO.guarded rfl rfl rfl (q_move rfl) ?_
  refine DO.guarded rfl rfl rfl (q_move rfl) ?_
  refine DO.guarded rfl rfl rfl (q_sliceTo (hi := i) uT37 inf3 rfl rfl (by omega)) ?_
  refine DO.guarded rfl rfl rfl (q_move rfl) ?_
  refine DO.guarded rfl rfl rfl (q_move rfl) ?_
  refine DO.guarded rfl rfl rfl (q_ix (i := i) uT37 inf3 rfl rfl (Sl.o hs) hil (by rw [List.length_map]; exact hil)) ?_
  refine DO.guarded rfl rfl rfl (q_ld uT3 rfl rfl (Sl.o hs) hxi) ?_
  have hk33 := fun (w1 : World) (hI : Inv w [] w1) => (haveI := tbz hI; (show PureT _ _ _ _ _ from by
    have h9 := hasInt w1 pb pc (l.take i) x ((hI.sl hs).itake i) (by rw [List.length_take]; omega)
    rw [show (l.take i).length = i by rw [List.length_take]; omega] at h9
    exact h9))
  refine DO.lastG rfl rfl rfl rfl (l_call ent80 (CallT.op hk33) rfl ?_)
  clear hk33
  rintro vr O' ⟨N, rfl, rfl, rfl⟩
  refine DO.last rfl rfl (LT.oq rfl rfl (q_pick0 rfl rfl) ?_)
  refine DO.done ?_
  refine T.condP rfl (fun hc => ?_) (fun hc => ?_)
  ·refine T.s ?_
   refine T.rg (TO.qa rfl (TO.nl (T.ret (Res.drop ?_))))
   refine Res.one (.bool false) Tryz.results60 rfl ?_
   exact ⟨[], Sub.z, congrArg Value.bool (perm_bad hxi0 (by simp_all)).symm, rfl⟩
  refine T.skip (T.rg (TO.qm rfl (TO.q (q_addN (a := i) (b := 1) rfl rfl (by omega)) (TO.qa rfl (TO.nl ?_)))))
  exact ⟨i + 1, by omega, rfl, by omega, fun j y hj hy => (Nat.lt_succ_iff_lt_or_eq.1 hj).elim (fun h => hall j y h hy) (fun h => by subst h; rw [hxi0] at hy; obtain rfl := Option.some.inj hy; exact ⟨by omega, by omega, by simp_all⟩), ⟨rfl, rfl, rfl, trivial⟩⟩
 have hge9 : ¬ i < l.length := by omega
 refine T.exit ?_
 refine T.s ?_
 have hok := perm_ok h0 (l := l) (n := n) (fun j x hx => hall j x (by have := (List.getElem?_eq_some_iff.1 hx).1; omega) hx)
 refine T.rg (TO.qm rfl (TO.q (q_len uT37 rfl) (TO.qm rfl (TO.q (q_eql rfl rfl) (TO.qa rfl (TO.nl (T.ret (Res.drop ?_))))))))
 refine Res.one (.bool (decide ((l.length : Int) = n))) Tryz.results60 rfl ?_
 exact ⟨[], Sub.z, by rw [hok], rfl⟩
end Go.Proofs.YtohkmggbfcnapaaGreatDoor


namespace Go.Proofs.YtohkmggbfcnapaaGreatDoor
open Go.Lx Go.RowKit _root_.Go.Proofs.Tryz
theorem rrnBad (w : World) [Tab Tryz.prog w] (a : DFA) (k : DK) (ha : At w a k) (haa : a.next.length < 9223372036854775807) (haar : ∀ r ∈ a.next, r.length < 9223372036854775807) (haaf : a.final.length < 9223372036854775807) (he : checkD a ≠ 0) (pb : Option Addr) (pc : Nat) (l : List Int) :
  PureT Tryz.prog 25 [dV a k, .slice pb l.length pc] w fun v9 N => v9 = .tuple #[dV noD ⟨none, 0, none, 0, []⟩, vI (checkD a : Int)] ∧ N = [] := by
 refine CallT.enter func25 rfl ntmps25 rfl ?_
 refine T.s (T.rg (TO.l rfl (l_box (v := (dV a k)) (cs := (dC a k)) rfl rfl (fun bx1 => ?_))))
 refine TO.l rfl (l_alloc inf25 rfl (fun bx2 => ?_))
 refine TO.qa rfl (TO.nl (T.s (T.rg (TO.q (q_la 1 uT25 rfl inf25 rfl rfl rfl) ?_))))
 have hk11 := fun (w1 : World) (hI : Inv w [oI bx2 25 [(vI 0), (vI 0), nS, nS], oI bx1 25 (dC a k)] w1) => (haveI := tbz hI; refCheck w1 a k.nb k.fb k.nc k.fc (vals k.qs) (hI.dfa ha) haa haar haaf)
 refine TO.l rfl (l_call ent21 (CallT.op hk11) rfl ?_)
 clear hk11
 rintro vr O' ⟨N, rfl, rfl, rfl⟩
 refine TO.qa rfl (TO.nl (T.s (T.s (T.rg (TO.qm rfl (TO.q (QT.toB (q_neq rfl rfl) (decide_eq_true (by omega))) (TO.nl ?_)))))))
 refine T.cond1 rfl ?_
 refine T.s (T.rg (TO.q (q_build plan25 inf25 rfl) (TO.qm rfl (TO.l rfl (l_sb (v := (.agg #[(vI 0), (vI 0), nS, nS])) (vs := [(vI 0), (vI 0), nS, nS]) 0 inf25 rfl rfl rfl rfl rfl rfl (by simp [putL]) ?_)))))
 refine TO.qa rfl (TO.nl (T.ret (Res.drop ?_)))
 refine Res.cell1b (vI (checkD a : Int)) (i := 0) Tryz.results25 uT25 rfl inf25 rfl rfl rfl rfl ?_
 exact ⟨[], Sub.z, rfl, rfl⟩
theorem rrnNo (w : World) [Tab Tryz.prog w] (a : DFA) (k : DK) (ha : At w a k) (hv : Valid a) (pb : Option Addr) (pc : Nat) (l : List Int) (hp : Sl w pb (ints l)) (hll : l.length < 1000000) (hpc : l.length ≤ pc) (hpm : permB l a.vars = false) :
  PureT Tryz.prog 25 [dV a k, .slice pb l.length pc] w fun v9 N => v9 = .tuple #[dV noD ⟨none, 0, none, 0, []⟩, vI 7] ∧ N = [] := by
 refine CallT.enter func25 rfl ntmps25 rfl ?_
 have he := checkD_zero.2 hv
 have h4 := hv.n4
 have hww : letN a ≤ 64 := hv.width
 have hfin := hv.fin
 have hvl := ha.rows.1
 have hsl := start_lt hv.toVal
 have hs0 := hv.s0
 have hs1 := hv.s1
 refine T.s (T.rg (TO.l rfl (l_box (v := (dV a k)) (cs := (dC a k)) rfl rfl (fun bx1 => ?_))))
 refine TO.l rfl (l_alloc inf25 rfl (fun bx2 => ?_))
 refine TO.qa rfl (TO.nl (T.s (T.rg (TO.q (q_la 1 uT25 rfl inf25 rfl rfl rfl) ?_))))
 have hk11 := fun (w1 : World) (hI : Inv w [oI bx2 25 [(vI 0), (vI 0), nS, nS], oI bx1 25 (dC a k)] w1) => (haveI := tbz hI; (show PureT _ _ _ _ _ from by
   have h9 := refCheck w1 a k.nb k.fb k.nc k.fc (vals k.qs) (hI.dfa ha) (by omega) hv.bound (by omega)
   rw [he] at h9
   exact h9))
 refine TO.l rfl (l_call ent21 (CallT.op hk11) rfl ?_)
 clear hk11
 rintro vr O' ⟨N, rfl, rfl, rfl⟩
 refine TO.qa rfl (TO.nl (T.s (T.s (T.rg (TO.qm rfl (TO.q (QT.toB (q_neq rfl rfl) (decide_eq_false (fun h => h rfl))) (TO.nl (T.cond0 rfl (T.skip (T.s (T.s (T.rg (TO.qm rfl (TO.q (q_fa uT25 rfl inf3 rfl rfl) (TO.q (q_lb 1 uT3 rfl rfl rfl rfl) ?_)))))))))))))))
 have hk19 := fun (w1 : World) (hI : Inv w [oI bx2 25 [(vI 0), (vI 0), nS, nS], oI bx1 25 (dC a k)] w1) => (haveI := tbz hI; (show PureT _ _ _ _ _ from by
   have h9 := renamC w1 pb pc l (hI.sl hp) hll hpc a.vars hv.v0
   rw [hpm] at h9
   exact h9))
 refine TO.l rfl (l_call ent60 (CallT.op hk19) rfl ?_)
 clear hk19
 rintro vr O' ⟨N, rfl, rfl, rfl⟩
 refine TO.q (q_not rfl) (TO.nl ?_)
 refine T.cond1 rfl ?_
 refine T.s (T.rg (TO.q (q_build plan25 inf25 rfl) (TO.l rfl (l_sb (v := (.agg #[(vI 0), (vI 0), nS, nS])) (vs := [(vI 0), (vI 0), nS, nS]) 0 inf25 rfl rfl rfl rfl rfl rfl (by simp [putL]) ?_))))
 refine TO.qa rfl (TO.nl (T.ret (Res.drop ?_)))
 refine Res.cell1b (vI 7) (i := 0) Tryz.results25 uT25 rfl inf25 rfl rfl rfl rfl ?_
 exact ⟨[], Sub.z, rfl, rfl⟩
theorem rrnOk (w : World) [Tab Tryz.prog w] (a : DFA) (k : DK) (ha : At w a k) (hv : Valid a) (pb : Option Addr) (pc : Nat) (l : List Int) (p : List Nat) (hpp : natL l = p) (hp : Sl w pb (ints l)) (hll : l.length < 1000000) (hpc : l.length ≤ pc) (hpm : permB l a.vars = true) {Z : DFA} (hZ : minD (reD a a.vars (fun y => imF p y p.length)) = Z) :
  PureT Tryz.prog 25 [dV a k, .slice pb l.length pc] w fun v9 N => ∃ k8 : DK, v9 = .tuple #[dV Z k8, vI 0] ∧ N = [dI 37 4 3 Z k8] := by
 refine CallT.enter func25 rfl ntmps25 rfl ?_
 have he := checkD_zero.2 hv
 have h4 := hv.n4
 have hww : letN a ≤ 64 := hv.width
 have hfin := hv.fin
 have hvl := ha.rows.1
 have hsl := start_lt hv.toVal
 have hs0 := hv.s0
 have hs1 := hv.s1
 have hv6 := hv.v6
 have hv0 := hv.v0
 obtain ⟨hpz, _⟩ := permB_iff.1 hpm
 obtain ⟨hpn, hpe⟩ := hpz.nat
 have hin : ints l = intN p := by rw [← hpp]; exact (congrArg (fun z : List Int => ints z) hpe).trans (by simp [List.map_map])
 have hpl : p.length = l.length := by rw [← hpp]; exact natL_len l
 have hln : l.length = a.vars.toNat := hpz.1
 have hpN : PermN p p.length := by rw [hpl, hln, ← hpp]; exact hpn
 have h2p : 2 ^ p.length = letN a := by rw [hpl, hln]
 have hps : Sl w pb (intN p) := by rw [← hin]; exact hp
 refine T.s (T.rg (TO.l rfl (l_box (v := (dV a k)) (cs := (dC a k)) rfl rfl (fun z1 => ?_))))
 refine TO.l rfl (l_alloc inf25 rfl (fun z2 => ?_))
 refine TO.qa rfl (TO.nl (T.s (T.rg (TO.q (q_la 1 uT25 rfl inf25 rfl rfl rfl) ?_))))
 have hk11 := fun (w1 : World) (hI : Inv w [oI z2 25 [(vI 0), (vI 0), nS, nS], oI z1 25 (dC a k)] w1) => (haveI := tbz hI; (show PureT _ _ _ _ _ from by
   have h9 := refCheck w1 a k.nb k.fb k.nc k.fc (vals k.qs) (hI.dfa ha) (by omega) hv.bound (by omega)
   rw [he] at h9
   exact h9))
 refine TO.l rfl (l_call ent21 (CallT.op hk11) rfl ?_)
 clear hk11
 rintro vr O' ⟨N, rfl, rfl, rfl⟩
 refine TO.qa rfl (TO.nl (T.s (T.s (T.rg (TO.qm rfl (TO.q (QT.toB (q_neq rfl rfl) (decide_eq_false (fun h => h rfl))) (TO.nl (T.cond0 rfl (T.skip (T.s (T.s (T.rg (TO.qm rfl (TO.q (q_fa uT25 rfl inf3 rfl rfl) (TO.q (q_lb 1 uT3 rfl rfl rfl rfl) ?_)))))))))))))))
 have hk19 := fun (w1 : World) (hI : Inv w [oI z2 25 [(vI 0), (vI 0), nS, nS], oI z1 25 (dC a k)] w1) => (haveI := tbz hI; (show PureT _ _ _ _ _ from by
   have h9 := renamC w1 pb pc l (hI.sl hp) hll hpc a.vars hv.v0
   rw [hpm] at h9
   exact h9))
 refine TO.l rfl (l_call ent60 (CallT.op hk19) rfl ?_)
 clear hk19
 rintro vr O' ⟨N, rfl, rfl, rfl⟩
 refine TO.q (q_not rfl) (TO.nl (T.cond0 rfl (T.skip (T.s (T.rg (TO.q (q_la 1 uT25 rfl inf25 rfl rfl rfl) ?_))))))
 have hk23 := fun (w1 : World) (hI : Inv w [oI z2 25 [(vI 0), (vI 0), nS, nS], oI z1 25 (dC a k)] w1) => (haveI := tbz hI; copyK w1 a k (hI.atB ha) (by omega) (fun r hr => by have h9 : r.length = letN a := hv.len r hr; omega) (by omega))
 refine TO.l rfl (l_call ent12 (CallT.op hk23) rfl ?_)
 clear hk23
 rintro vr O' ⟨N, rfl, k1, rfl, rfl⟩
 refine TO.l rfl (l_alloc inf25 rfl (fun z3 => ?_))
 refine TO.l rfl (l_sb (v := (dV a k1)) (vs := (dC a k1)) 0 inf25 rfl rfl rfl rfl rfl rfl (by simp [putL]) ?_)
 refine TO.nl (T.s (T.s (T.rg (TO.qa rfl (TO.nl ?_)))))
 refine T.reset [oI z3 25 (dC a k1), dI 37 4 3 a k1, oI z2 25 [(vI 0), (vI 0), nS, nS], oI z1 25 (dC a k)] [(0, (dV a k)), (1, (.slice pb l.length pc)), (2, (.pointer (aD z1))), (4, (.pointer (aD z2))), (5, vI 0), (6, vI 0), (7, (.pointer (aD z3))), (8, vI 0)] rfl (.of rfl) (fun ρ0 => ?_)
 refine T.block ?_
 refine T.sub (O' := [dI 37 4 3 a k1, oI z1 25 (dC a k), oI z2 25 [(vI 0), (vI 0), nS, nS], oI z3 25 (dC a k1)]) (by exact Sub.pull [oI z3 25 (dC a k1)] _ (.pull [oI z3 25 (dC a k1), oI z2 25 [(vI 0), (vI 0), nS, nS]] _ (.pull [oI z3 25 (dC a k1)] _ (.k .z)))) ?_
 refine T.unpack (fun hkq => ?_)
 refine T.sub (O' := (([rowI k1.nb k1.nc 37 1 (vals k1.qs), rowI k1.fb k1.fc 4 1 (bools a.final)] ++ itms 3 k1.qs) ++ [oI z1 25 (dC a k), oI z2 25 [(vI 0), (vI 0), nS, nS], oI z3 25 (dC a k1)])) (by exact Sub.rf) ?_
 refine T.sub (O' := ([rowI k1.nb k1.nc 37 1 (vals k1.qs), rowI k1.fb k1.fc 4 1 (bools a.final), oI z1 25 (dC a k), oI z2 25 [(vI 0), (vI 0), nS, nS], oI z3 25 (dC a k1)] ++ (itms 3 [] ++ itms 3 (k1.qs.drop 0)))) (by rw [List.drop_zero]; exact Sub.ca []) ?_
 have hkl : k1.qs.length = a.next.length := by rw [← hkq]; simp
 have hkv : (vals k1.qs).length = a.next.length := by rw [List.length_map]; exact hkl
 refine T.loop (fun (s : Nat) ρ O => ∃ (ds : List Rec), O = ([rowI k1.nb k1.nc 37 1 (vals k1.qs), rowI k1.fb k1.fc 4 1 (bools a.final), oI z1 25 (dC a k), oI z2 25 [(vI 0), (vI 0), nS, nS], oI z3 25 (dC a k1)] ++ (itms 3 ds ++ itms 3 (k1.qs.drop s))) ∧ s ≤ a.next.length ∧ vals ds = (vals k1.qs).take s ∧ nums ds = (List.range s).map (reR a (letN a) (fun y => imF p y p.length)) ∧ Heads [(0, (dV a k)), (1, (.slice pb l.length pc)), (2, (.pointer (aD z1))), (4, (.pointer (aD z2))), (5, vI 0), (6, vI 0), (7, (.pointer (aD z3))), (8, vI ((s : Nat) : Int))] ρ) (fun s => a.next.length - s) 0 ?_ ?_
 ·exact ⟨[], rfl, Nat.zero_le _, rfl, rfl, (.of rfl)⟩
 rintro s ρ O ⟨ds, rfl, hs, hdv, hdn, hH⟩
 obtain ⟨ρ0, rfl⟩ := hH.elim
 clear hH
 refine T.s (T.s (T.rg (TO.qm rfl (TO.q (q_fa uT25 rfl inf22 rfl rfl) (TO.q (q_lb 2 uT22 rfl rfl rfl rfl) (TO.q (q_len uT22 rfl) (TO.q (q_lss rfl rfl) (TO.nl (T.condP rfl (fun hc => ?_) (fun hc => ?_))))))))))
 ·have hlt28 : s < a.next.length := by omega
  have hsl9 : s < a.next.length := by omega
  obtain ⟨v1, c1, g1, s1⟩ := ha.rows.get hsl9
  have hl1 : a.next[s].length = letN a := hv.len _ (List.getElem_mem hsl9)
  obtain ⟨q1, hq1⟩ : ∃ q, k1.qs[s]? = some q := ⟨_, List.getElem?_eq_getElem (by omega)⟩
  have hxs : q1.xs = a.next[s] := by
   have h9 : (nums k1.qs)[s]? = some q1.xs := by rw [List.getElem?_map, hq1]; rfl
   rw [hkq, List.getElem?_eq_getElem hsl9] at h9
   exact (Option.some.inj h9).symm
  have hg1 : (vals k1.qs)[s]? = some (.slice q1.b a.next[s].length q1.c) := by rw [rvals_at hq1, hxs]
  have hit : itms 3 (k1.qs.drop s) = rowI q1.b q1.c 3 1 (ints (rnP a p s 0)) :: itms 3 (k1.qs.drop (s + 1)) := by
   obtain ⟨hq2, hq3⟩ := List.getElem?_eq_some_iff.1 hq1
   rw [rnP_zero hv p hsl9, ← hxs, ← hq3, List.drop_eq_getElem_cons hq2]; rfl
  refine T.skip (T.s (T.block (T.s (T.rg (TO.qa rfl (TO.nl (T.block ?_)))))))
  refine T.sub (O' := ([rowI q1.b q1.c 3 1 (ints (rnP a p s 0)), rowI k1.nb k1.nc 37 1 (vals k1.qs), rowI k1.fb k1.fc 4 1 (bools a.final), oI z1 25 (dC a k), oI z2 25 [(vI 0), (vI 0), nS, nS], oI z3 25 (dC a k1)] ++ (itms 3 ds ++ itms 3 (k1.qs.drop (s + 1))))) (by rw [hit]; exact Sub.ca []) ?_
  refine T.loop (fun (x : Nat) ρ O => O = ([rowI q1.b q1.c 3 1 (ints (rnP a p s x)), rowI k1.nb k1.nc 37 1 (vals k1.qs), rowI k1.fb k1.fc 4 1 (bools a.final), oI z1 25 (dC a k), oI z2 25 [(vI 0), (vI 0), nS, nS], oI z3 25 (dC a k1)] ++ (itms 3 ds ++ itms 3 (k1.qs.drop (s + 1)))) ∧ x ≤ letN a ∧ Heads [(0, (dV a k)), (1, (.slice pb l.length pc)), (2, (.pointer (aD z1))), (4, (.pointer (aD z2))), (5, vI 0), (6, vI 0), (7, (.pointer (aD z3))), (8, vI ((s : Nat) : Int)), (9, vI ((x : Nat) : Int))] ρ) (fun x => letN a - x) 0 ?_ ?_
  ·exact ⟨rfl, Nat.zero_le _, (.of rfl)⟩
  rintro x ρ O ⟨rfl, hx, hH⟩
  obtain ⟨ρ0, rfl⟩ := hH.elim
  clear hH
  refine T.s (T.s (T.rg (TO.qm rfl (TO.q (q_fa uT25 rfl inf22 rfl rfl) (TO.q (q_lb 3 uT22 rfl rfl rfl rfl) (TO.qm rfl (TO.q (q_ix (i := s) uT22 inf37 rfl rfl (Sl.o ha.outer) hsl9 (hvl ▸ hsl9)) (TO.q (q_ld uT37 rfl rfl (Sl.o ha.outer) g1) (TO.q (q_len uT37 rfl) (TO.q (q_lss rfl rfl) (TO.nl (T.condP rfl (fun hc => ?_) (fun hc => ?_)))))))))))))
  ·have hlt38 : x < a.next[s].length := by omega
   have hxl : x < letN a := by omega
   have hx64 : x < 64 := by omega
   obtain ⟨hto, _, hxk1, hx1⟩ := hv.toN_lt hsl9 hxl
   have hx1 : (ints a.next[s])[x]? = some (vI ((toN a s x : Nat) : Int)) := by rw [ints_get hxk1, hx1]
   have hml : maF p x p.length < letN a := by rw [← h2p]; exact hpN.ma_lt x
   have hrl := rnP_len a p s x
   refine T.skip (T.s (T.block ?_))
   refine T.draws _ [(0, 0), (1, 0), (2, 0), (3, 0), (4, 0), (5, 0), (6, 0), (7, 0), (9, 0), (10, 0), (11, 0), (12, 0), (13, 0), (14, 0), (15, 0), (16, 0), (8, 1), (17, 0), (18, 2)] mixed (drawF_ok (by kernel_rfl)) (Sub.of (List.Sublist.refl _)) (fun _ _ _ h => h) ?_
   refine DO.q rfl (q_fa uT25 rfl inf22 rfl rfl) (DO.q rfl (q_lb 5 uT22 rfl rfl rfl rfl) (DO.q rfl (q_move rfl) (DO.q rfl (q_ix (i := s) uT22 inf37 rfl rfl (rowO (mG 1 rfl)) hsl9 (hkv ▸ hsl9)) (DO.q rfl (q_ld uT37 rfl rfl (rowO (mG 1 rfl)) hg1) (DO.q rfl (q_move rfl) (DO.q rfl (q_conv_id uT3 uT5 rfl (wrap8 (by omega))) (DO.q rfl (q_move rfl) (DO.q rfl (q_fa uT25 rfl inf22 rfl rfl) (DO.q rfl (q_lb 3 uT22 rfl rfl rfl rfl) (DO.q rfl (q_move rfl) (DO.q rfl (q_ix (i := s) uT22 inf37 rfl rfl (Sl.o ha.outer) hsl9 (hvl ▸ hsl9)) (DO.q rfl (q_ld uT37 rfl rfl (Sl.o ha.outer) g1) (DO.q rfl (q_move rfl) (DO.q rfl (q_ix (i := x) uT37 inf3 rfl rfl (Sl.o s1) hxk1 (by rw [List.length_map]; exact hxk1)) (DO.q rfl (q_ld uT3 rfl rfl (Sl.o s1) hx1) ?_)))))))))))))))
   have hk49 := fun (w1 : World) (hI : Inv w ([rowI q1.b q1.c 3 1 (ints (rnP a p s x)), rowI k1.nb k1.nc 37 1 (vals k1.qs), rowI k1.fb k1.fc 4 1 (bools a.final), oI z1 25 (dC a k), oI z2 25 [(vI 0), (vI 0), nS, nS], oI z3 25 (dC a k1)] ++ (itms 3 ds ++ itms 3 (k1.qs.drop (s + 1)))) w1) => (haveI := tbz hI; (show PureT _ _ _ _ _ from by
     have h9 := mapC w1 x hx64 pb pc p (hI.sl hps) hpN (by omega)
     rw [hpl] at h9
     rw [show maF p x l.length = maF p x p.length from by rw [hpl]] at h9
     exact h9))
   refine DO.loud rfl rfl (l_call ent61 (CallT.op hk49) rfl ?_)
   clear hk49
   rintro vr O' ⟨N, rfl, rfl, rfl⟩
   refine ⟨by exact Sub.rf, ?_⟩
   refine DO.q rfl (q_ix (i := (maF p x p.length)) uT37 inf3 rfl rfl (rowO (mG 0 rfl)) (by omega) (by rw [List.length_map, rnP_len]; exact hml)) ?_
   refine DO.last rfl rfl (l_st (j := (maF p x p.length)) (v := vI ((toN a s x : Nat) : Int)) (vs := [(vI ((toN a s x : Nat) : Int))]) (cs := ints (rnP a p s x)) 0 inf3 rfl rfl rfl rfl rfl (by simp) rfl (by rw [List.length_map, rnP_len]; simp; omega) ?_)
   refine DO.sub (O' := ([rowI q1.b q1.c 3 1 (ints (rnP a p s (x + 1))), rowI k1.nb k1.nc 37 1 (vals k1.qs), rowI k1.fb k1.fc 4 1 (bools a.final), oI z1 25 (dC a k), oI z2 25 [(vI 0), (vI 0), nS, nS], oI z3 25 (dC a k1)] ++ (itms 3 ds ++ itms 3 (k1.qs.drop (s + 1))))) (by rw [show putL (ints (rnP a p s x)) (maF p x p.length) [(vI ((toN a s x : Nat) : Int))] = ints (rnP a p s (x + 1)) from by rw [← rnP_set hpN h2p hxl]; simp [putL]]; exact Sub.of (List.Sublist.refl _)) ?_
   refine DO.done ?_
   refine T.rg (TO.qm rfl (TO.q (q_addN (a := x) (b := 1) rfl rfl (by omega)) (TO.qa rfl (TO.nl ?_))))
   exact ⟨x + 1, by omega, rfl, by omega, (.of rfl)⟩
  have hge38 : ¬ x < a.next[s].length := by omega
  refine T.exit ?_
  have hxe : x = letN a := by omega
  have hfx : rnP a p s x = reR a (letN a) (fun y => imF p y p.length) s := by rw [hxe]; exact rnP_full h2p
  have hdv2 : vals (ds ++ [⟨q1.b, q1.c, reR a (letN a) (fun y => imF p y p.length) s⟩]) = (vals k1.qs).take (s + 1) := by
   show List.map Rec.val (ds ++ [_]) = _
   rw [List.map_append, show List.map Rec.val ds = _ from hdv, take_at hg1]
   simp [Rec.val, reR_len, hl1]
  have hdn2 : nums (ds ++ [⟨q1.b, q1.c, reR a (letN a) (fun y => imF p y p.length) s⟩]) = (List.range (s + 1)).map (reR a (letN a) (fun y => imF p y p.length)) := by
   show List.map Rec.xs (ds ++ [_]) = _
   rw [List.map_append, show List.map Rec.xs ds = _ from hdn, List.range_succ, List.map_append]; rfl
  refine T.sub (O' := ([rowI q1.b q1.c 3 1 (ints (reR a (letN a) (fun y => imF p y p.length) s)), rowI k1.nb k1.nc 37 1 (vals k1.qs), rowI k1.fb k1.fc 4 1 (bools a.final), oI z1 25 (dC a k), oI z2 25 [(vI 0), (vI 0), nS, nS], oI z3 25 (dC a k1)] ++ (itms 3 ds ++ itms 3 (k1.qs.drop (s + 1))))) (by rw [hfx]; exact Sub.rf) ?_
  refine T.sub (O' := ([rowI k1.nb k1.nc 37 1 (vals k1.qs), rowI k1.fb k1.fc 4 1 (bools a.final), oI z1 25 (dC a k), oI z2 25 [(vI 0), (vI 0), nS, nS], oI z3 25 (dC a k1)] ++ (itms 3 (ds ++ [⟨q1.b, q1.c, reR a (letN a) (fun y => imF p y p.length) s⟩]) ++ itms 3 (k1.qs.drop (s + 1))))) (by rw [itms_snoc]; exact Sub.cnt [] (by intro a; simp only [Rec.itm, oI, List.set_cons_zero, List.set_cons_succ, putL, List.cons_append, List.nil_append, List.append_nil, List.append_assoc, List.map_append, List.map_cons, List.map_nil, cnt_append, cnt_cons, cnt_nil, vI, nS, aD] <;> omega)) ?_
  refine T.rg (TO.qm rfl (TO.q (q_addN (a := s) (b := 1) rfl rfl (by omega)) (TO.qa rfl (TO.nl ?_))))
  exact ⟨s + 1, by omega, ds ++ [⟨q1.b, q1.c, reR a (letN a) (fun y => imF p y p.length) s⟩], rfl, by omega, hdv2, hdn2, (.of rfl)⟩
 have hge28 : ¬ s < a.next.length := by omega
 refine T.exit ?_
 refine T.s ?_
 have hse : s = a.next.length := by omega
 obtain ⟨Tz, hT⟩ : ∃ T, T = reD a a.vars (fun y => imF p y p.length) := ⟨_, rfl⟩
 have e1 : nums ds = Tz.next := by rw [hT, hdn, hse, re_nextV hv]
 have e2 : a.final = Tz.final := by rw [hT]; rfl
 have e3 : vals k1.qs = vals ds := by rw [hdv, hse, List.take_of_length_le (by omega)]
 have e4 : k1.qs.drop s = [] := List.drop_of_length_le (by omega)
 have e5 : a.next.length = Tz.next.length := by rw [hT, re_len]
 have e6 : a.final.length = Tz.final.length := by rw [← e2]
 have hTv : Valid Tz := by rw [hT]; exact (HasL.re (HasL.of hv (Nat.le_refl _)) (by omega) (by omega) (fun x hx => by show _ < letN a; rw [← h2p]; exact imF_lt _ _ _)).valid
 obtain ⟨z9, hz9⟩ : ∃ z : DK, z = ⟨k1.nb, k1.nc, k1.fb, k1.fc, ds⟩ := ⟨_, rfl⟩
 refine T.sub (O' := (([rowI k1.nb k1.nc 37 1 (vals ds), rowI k1.fb k1.fc 4 1 (bools Tz.final)] ++ itms 3 ds) ++ [oI z3 25 (dC a k1), oI z1 25 (dC a k), oI z2 25 [(vI 0), (vI 0), nS, nS]])) (by rw [e4, ← e3, ← e2]; exact Sub.ca []) ?_
 refine T.pack (φ := nums ds = Tz.next) e1 ?_
 refine T.sub (O' := [dI 37 4 3 Tz z9, oI z3 25 (dC Tz z9), oI z1 25 (dC a k), oI z2 25 [(vI 0), (vI 0), nS, nS]]) (by subst hz9; unfold dC dfaCells; rw [← e5, ← e6, hT]; exact Sub.rf) ?_
 refine T.rg (TO.q (q_la 1 uT25 rfl inf25 rfl rfl rfl) ?_)
 have hk60 := fun (w1 : World) (hI : Inv w [dI 37 4 3 Tz z9, oI z3 25 (dC Tz z9), oI z1 25 (dC a k), oI z2 25 [(vI 0), (vI 0), nS, nS]] w1) => (haveI := tbz hI; rMinKE w1 Tz z9 (hI.at (k := z9) (mG 0 rfl)) hTv (by omega) (M := Z) (by rw [hT]; exact hZ))
 refine TO.l rfl (l_call ent45 (CallT.op hk60) rfl ?_)
 clear hk60
 rintro vr O' ⟨N, rfl, k8, rfl, rfl⟩
 refine TO.q (q_extract (vs := _) rfl rfl) (TO.q (q_extract (vs := _) rfl rfl) (TO.l rfl (l_sb (v := (dV Z k8)) (vs := (dC Z k8)) 4 inf25 rfl rfl rfl rfl rfl rfl (by simp [putL]) ?_)))
 refine TO.qa rfl (TO.nl (T.ret (Res.drop ?_)))
 refine Res.cell1b (vI 0) (i := 4) Tryz.results25 uT25 rfl inf25 rfl rfl rfl rfl ?_
 exact ⟨[dI 37 4 3 Z k8], (by exact Sub.k .z), k8, rfl, rfl⟩
theorem rrnC (w : World) [Tab Tryz.prog w] (a : DFA) (k : DK) (ha : At w a k) (haa : a.next.length < 9223372036854775807) (haar : ∀ r ∈ a.next, r.length < 9223372036854775807) (haaf : a.final.length < 9223372036854775807) (pb : Option Addr) (pc : Nat) (l : List Int) (hp : Sl w pb (ints l)) (hll : l.length < 1000000) (hpc : l.length ≤ pc) :
  PureT Tryz.prog 25 [dV a k, .slice pb l.length pc] w fun v9 N => ∃ k9 : DK, v9 = .tuple #[dV (rnV a l) k9, vI (rnE a l : Int)] ∧ N = [dI 37 4 3 (rnV a l) k9] := by
 by_cases he : checkD a = 0
 ·have hv := checkD_zero.1 he
  cases hpm : permB l a.vars with
  | false =>
   have e1 : rnE a l = 7 := by unfold rnE; rw [if_neg (by omega), hpm]; rfl
   have e2 : rnV a l = noD := by unfold rnV; rw [if_neg (by omega)]
   rw [e1, e2]
   refine (CallT.nilD 37 4 3 (rrnNo w a k ha hv pb pc l hp hll hpc hpm)).mono ?_
   rintro v9 N ⟨O2, rfl, rfl, rfl⟩
   exact ⟨k00, rfl, rfl⟩
  | true =>
   have e1 : rnE a l = 0 := by unfold rnE; rw [if_neg (by omega), if_pos hpm]
   have e2 : rnV a l = minD (reD a a.vars fun y => imF (natL l) y l.length) := by unfold rnV; rw [if_pos e1]
   rw [e1, e2]
   exact rrnOk w a k ha hv pb pc l (natL l) rfl hp hll hpc hpm (by rw [natL_len])
 ·obtain ⟨e1, e2⟩ := rn_bad (l := l) he
  rw [e1, e2]
  refine (CallT.nilD 37 4 3 (rrnBad w a k ha haa haar haaf he pb pc l)).mono ?_
  rintro v9 N ⟨O2, rfl, rfl, rfl⟩
  exact ⟨k00, rfl, rfl⟩
end Go.Proofs.YtohkmggbfcnapaaGreatDoor


namespace Go.Proofs.YtohkmggbfcnapaaGreatDoor
open Go.Lx Go.RowKit _root_.Go.Proofs.Tryz
theorem dropF (base : World) [Tab Tryz.prog base] (lb v x : Nat) (hv : v < 6) (hx : x < 32) :
  CallT Tryz.prog base 63 [.int .u8 ((x : Nat) : Int), .pointer (aD lb)] [oI lb 5 [(.int .u8 ((2 ^ v - 1 : Nat) : Int))]] (fun r O' => r = .int .u8 ((drp v x : Nat) : Int) ∧ O' = [oI lb 5 [(.int .u8 ((2 ^ v - 1 : Nat) : Int))]]) := by
 refine CallT.enter func63 rfl ntmps63 rfl ?_
 have hp : 2 ^ v ≤ 2 ^ 5 := Nat.pow_le_pow_right (by decide) (by omega)
 have h1 : x &&& (2 ^ v - 1) ≤ x := Nat.and_le_left
 have h2 : x &&& (255 - (2 ^ v - 1)) ≤ x := Nat.and_le_left
 have h3 : (x >>> 1) &&& (255 - (2 ^ v - 1)) ≤ x >>> 1 := Nat.and_le_left
 have h4 : x >>> 1 ≤ x := by rw [Nat.shiftRight_eq_div_pow]; omega
 refine T.s (T.rg (TO.qa rfl (TO.nl (T.s (T.rg (TO.qm rfl (TO.q (q_lb 0 uT5 rfl rfl rfl rfl) (TO.q (q_and (a := x) (b := 2 ^ v - 1) .u8 rfl rfl (by simp only [IntKind.bits]; omega) (by simp only [IntKind.bits]; omega)) (TO.qm rfl (TO.q (q_lb 0 uT5 rfl rfl rfl rfl) (TO.q (q_andNot8 (a := x) (b := 2 ^ v - 1) rfl rfl (by omega) (by omega)) (TO.q (q_shlU (a := x &&& (255 - (2 ^ v - 1))) (b := 1) .u8 rfl rfl (by decide) (by simp only [IntKind.bits]; omega)) (TO.q (QT.cast (q_or (a := x &&& (2 ^ v - 1)) (b := (x &&& (255 - (2 ^ v - 1))) * 2 ^ 1) .u8 rfl rfl (by simp only [IntKind.bits]; omega) (by simp only [IntKind.bits]; omega)) (v' := .int .u8 ((drp v x : Nat) : Int)) (by rw [drp_prog2 v hv x hx])) (TO.qa rfl (TO.nl (T.ret ?_))))))))))))))))
 refine Res.one (.int .u8 ((drp v x : Nat) : Int)) Tryz.results63 rfl ?_
 exact ⟨rfl, rfl⟩
theorem insF (base : World) [Tab Tryz.prog base] (lb v x : Nat) (hv : v < 6) (hx : x < 64) :
  CallT Tryz.prog base 64 [.int .u8 ((x : Nat) : Int), .pointer (aD lb)] [oI lb 5 [(.int .u8 ((2 ^ v - 1 : Nat) : Int))]] (fun r O' => r = .int .u8 ((cut v x : Nat) : Int) ∧ O' = [oI lb 5 [(.int .u8 ((2 ^ v - 1 : Nat) : Int))]]) := by
 refine CallT.enter func64 rfl ntmps64 rfl ?_
 have hp : 2 ^ v ≤ 2 ^ 5 := Nat.pow_le_pow_right (by decide) (by omega)
 have h1 : x &&& (2 ^ v - 1) ≤ x := Nat.and_le_left
 have h2 : x &&& (255 - (2 ^ v - 1)) ≤ x := Nat.and_le_left
 have h3 : (x >>> 1) &&& (255 - (2 ^ v - 1)) ≤ x >>> 1 := Nat.and_le_left
 have h4 : x >>> 1 ≤ x := by rw [Nat.shiftRight_eq_div_pow]; omega
 refine T.s (T.rg (TO.qa rfl (TO.nl (T.s (T.rg (TO.qm rfl (TO.q (q_lb 0 uT5 rfl rfl rfl rfl) (TO.q (q_and (a := x) (b := 2 ^ v - 1) .u8 rfl rfl (by simp only [IntKind.bits]; omega) (by simp only [IntKind.bits]; omega)) (TO.qm rfl (TO.q (q_shr (a := x) (b := 1) .u8 rfl rfl (by simp only [IntKind.bits]; omega) (by decide)) (TO.q (q_lb 0 uT5 rfl rfl rfl rfl) (TO.q (q_andNot8 (a := x >>> 1) (b := 2 ^ v - 1) rfl rfl (by omega) (by omega)) (TO.q (QT.cast (q_or (a := x &&& (2 ^ v - 1)) (b := (x >>> 1) &&& (255 - (2 ^ v - 1))) .u8 rfl rfl (by simp only [IntKind.bits]; omega) (by simp only [IntKind.bits]; omega)) (v' := .int .u8 ((cut v x : Nat) : Int)) (by rw [cut_prog v hv x hx])) (TO.qa rfl (TO.nl (T.ret ?_))))))))))))))))
 refine Res.one (.int .u8 ((cut v x : Nat) : Int)) Tryz.results64 rfl ?_
 exact ⟨rfl, rfl⟩
theorem renF (base : World) [Tab Tryz.prog base] (pb pc y : Nat) (pp : Option Addr) (l : List Nat) (hs : Sl base pp (intN l)) (hl : ∀ p ∈ l, p < 6) (h6 : l.length ≤ 6) (hy : y < 64) :
  CallT Tryz.prog base 67 [.int .u8 ((y : Nat) : Int), .pointer (aD pb)] [oI pb 37 [(.slice pp l.length pc)]] (fun r O' => r = .int .u8 ((imF l y l.length : Nat) : Int) ∧ O' = [oI pb 37 [(.slice pp l.length pc)]]) := by
 refine CallT.enter func67 rfl ntmps67 rfl ?_
 refine T.s (T.rg (TO.qa rfl (TO.nl (T.s (T.s (T.rg (TO.q (q_lb 0 uT37 rfl rfl rfl rfl) (TO.q (q_len uT37 rfl) (TO.qm rfl (TO.nl (T.block ?_)))))))))))
 refine T.loop (fun (i : Nat) ρ O => O = [oI pb 37 [(.slice pp l.length pc)]] ∧ i ≤ l.length ∧ Heads [(0, .int .u8 ((y : Nat) : Int)), (1, (.pointer (aD pb))), (3, .int .u8 ((imF l y i : Nat) : Int)), (6, (.slice pp l.length pc)), (7, vI (l.length : Int)), (8, vI ((i : Nat) : Int))] ρ) (fun i => l.length - i) 0 ?_ ?_
 ·exact ⟨rfl, Nat.zero_le _, (.of rfl)⟩
 rintro i ρ O ⟨rfl, hi, hH⟩
 obtain ⟨ρ0, rfl⟩ := hH.elim
 clear hH
 refine T.s (T.rg (TO.q (q_lss rfl rfl) (TO.nl (T.s (T.condP rfl (fun hc => ?_) (fun hc => ?_))))))
 ·have hlt9 : i < l.length := by omega
  have hil : i < l.length := by omega
  have hpl := hl _ (List.getElem_mem hil)
  have hgd : l.getD i 0 = l[i] := by rw [List.getD_eq_getElem?_getD, List.getElem?_eq_getElem hil]; rfl
  have hst := imF_step l y i
  have hb1 := imF_256 l y (show i ≤ 6 by omega)
  have hb2 := bit_256 y l[i] (show i < 6 by omega)
  have hb3 : y >>> l[i] ≤ y := by rw [Nat.shiftRight_eq_div_pow]; exact Nat.div_le_self _ _
  have hb4 : (y >>> l[i]) &&& 1 ≤ y >>> l[i] := Nat.and_le_left
  rw [hgd] at hst
  refine T.skip (T.s (T.block (T.s (T.rg (TO.qm rfl (TO.q (q_ix (i := i) uT37 inf3 rfl rfl (Sl.o hs) hil (by rw [List.length_map]; exact hil)) (TO.q (q_ld uT3 rfl rfl (Sl.o hs) (intN_get hil)) (TO.qa rfl (TO.qa rfl (TO.nl (T.rg (TO.qm rfl (TO.qm rfl (TO.qm rfl (TO.q (q_shr (a := y) (b := l[i]) .u8 rfl rfl (by simp only [IntKind.bits]; omega) (by simp only [IntKind.bits]; omega)) (TO.q (q_and (a := y >>> l[i]) (b := 1) .u8 rfl rfl (by simp only [IntKind.bits]; omega) (by decide)) (TO.qm rfl (TO.q (q_shlU (a := (y >>> l[i]) &&& 1) (b := i) .u8 rfl rfl (by simp only [IntKind.bits]; omega) (by simp only [IntKind.bits]; omega)) (TO.q (QT.cast (q_or (a := imF l y i) (b := ((y >>> l[i]) &&& 1) * 2 ^ i) .u8 rfl rfl (by simp only [IntKind.bits]; omega) (by simp only [IntKind.bits]; omega)) (v' := .int .u8 ((imF l y (i + 1) : Nat) : Int)) (by rw [hst])) (TO.qa rfl (TO.nl (T.rg ?_))))))))))))))))))))))
  refine TO.q (q_addN (a := i) (b := 1) rfl rfl (by omega)) (TO.qm rfl (TO.nl ?_))
  exact ⟨i + 1, by omega, rfl, by omega, (.of rfl)⟩
 have hge9 : ¬ i < l.length := by omega
 refine T.exit ?_
 refine T.s (T.rg (TO.qm rfl (TO.qa rfl (TO.nl (T.ret ?_)))))
 refine Res.one (.int .u8 ((imF l y i : Nat) : Int)) Tryz.results67 rfl ?_
 have hie : i = l.length := by omega
 subst hie
 exact ⟨rfl, rfl⟩
end Go.Proofs.YtohkmggbfcnapaaGreatDoor


namespace Go.Proofs.YtohkmggbfcnapaaGreatDoor
open Go.Lx Go.RowKit _root_.Go.Proofs.Tryz
theorem cloneNilB (w : World) [Tab Tryz.prog w] (c : Nat) :
  PureT Tryz.prog 89 [.slice none 0 c] w fun v N => ∃ b' c', v = .slice b' 0 c' ∧ N = [rowI b' c' 4 1 []] := by
 refine CallT.enter func89 rfl ntmps89 rfl ?_
 refine T.s (T.rg (TO.qa rfl (TO.nl (T.s (T.s (T.rg (TO.qm rfl (TO.q (q_eqlNil uT23 rfl rfl) (TO.nl ?_)))))))))
 refine T.cond1 rfl ?_
 refine T.s (T.nilRow 4 1 ?_)
 refine T.rg (TO.qa rfl (TO.nl (T.ret ?_)))
 refine Res.one nS Tryz.results89 rfl ?_
 exact ⟨_, _, rfl, rfl⟩
theorem cloneSomeB (w : World) [Tab Tryz.prog w] (a : Addr) (c : Nat) (xs : List Bool) (h1 : Sl w (some a) (bools xs)) (hb : xs.length * 1 ≤ 70368744177664) :
  PureT Tryz.prog 89 [.slice (some a) xs.length c] w fun v N => ∃ b' c', v = .slice b' xs.length c' ∧ N = [rowI b' c' 4 1 (bools xs)] := by
 refine CallT.enter func89 rfl ntmps89 rfl ?_
 refine T.s (T.rg (TO.qa rfl (TO.nl (T.s (T.s (T.rg (TO.qm rfl (TO.q (q_eqlNil uT23 rfl rfl) (TO.nl (T.cond0 rfl (T.skip (T.s (T.rg (TO.l rfl (l_buildSlice (m := 0) (parts := []) (cs := []) uT23 inf4 (by decide) (by simp [Instr.fill]) rfl (fun b1 => ?_))))))))))))))))
 refine TO.qm rfl (TO.l rfl (l_append 0 uT23 uT23 inf4 rfl rfl rfl rfl (by simp) (by decide) (Src.sl h1 (by simp)) (bools_one xs) (by omega) (by decide) (by decide) (fun b1 c2 => ?_)))
 refine TO.qa rfl (TO.nl (T.ret ?_))
 refine Res.one (.slice b1 (0 + xs.length) c2) Tryz.results89 rfl ?_
 exact ⟨_, _, by rw [Nat.zero_add], rfl⟩
theorem cloneB (w : World) [Tab Tryz.prog w] (b : Option Addr) (c : Nat) (xs : List Bool) (h1 : Sl w b (bools xs)) (hb : xs.length * 1 ≤ 70368744177664) :
  PureT Tryz.prog 89 [.slice b xs.length c] w fun v N => ∃ b' c', v = .slice b' xs.length c' ∧ N = [rowI b' c' 4 1 (bools xs)] := by
 cases b with
 | none =>
  have hx : xs = [] := by
   cases xs with
   | nil => rfl
   | cons x xs => obtain ⟨_, _, e⟩ := h1.addr (i := 0) (by simp); cases e
  subst hx
  exact cloneNilB w c
 | some a => exact cloneSomeB w a c xs h1 hb
theorem rebF (base : World) [Tab Tryz.prog base] (a : DFA) (k : DK) (ha : At base a k) (hv : Valid a) (m : Nat) (h6 : m ≤ 6) (L : Nat) (hL : 2 ^ m = L) (im : Nat → Nat) (him : ∀ x, x < L → im x < letN a) (gv : Value) (IT : List Lx.Item) (hg : ∀ x, x < L → CallV Tryz.prog base gv [.int .u8 ((x : Nat) : Int)] IT (fun r O' => r = .int .u8 ((im x : Nat) : Int) ∧ O' = IT)) {M : DFA} (hM : minD (reD a (m : Int) im) = M) :
  CallT Tryz.prog base 62 [dV a k, vI ((m : Nat) : Int), gv] IT (fun r O' => ∃ k' : DK, r = .tuple #[dV M k', vI 0] ∧ O' = [dI 37 4 3 M k']) := by
 refine CallT.enter func62 rfl ntmps62 rfl ?_
 have he := checkD_zero.2 hv
 have h4 := hv.n4
 have hww : letN a ≤ 64 := hv.width
 have hfin := hv.fin
 have hvl := ha.rows.1
 have hsl := start_lt hv.toVal
 have hs0 := hv.s0
 have hs1 := hv.s1
 have hm64 : L ≤ 2 ^ 6 := by rw [← hL]; exact Nat.pow_le_pow_right (by decide) h6
 refine T.s (T.rg (TO.l rfl (l_box (v := (dV a k)) (cs := (dC a k)) rfl rfl (fun z1 => ?_))))
 refine TO.l rfl (l_alloc inf25 rfl (fun z2 => ?_))
 refine TO.qa rfl (TO.nl ?_)
 refine T.cut (fun ρ O => ∃ (tb cc : Nat) (cb : Option Addr), O = ([oI tb 25 [(vI ((m : Nat) : Int)), (vI a.start), nS, (.slice cb a.final.length cc)], rowI cb cc 4 1 (bools a.final), oI z2 25 [(vI 0), (vI 0), nS, nS], oI z1 25 (dC a k)] ++ IT) ∧ Heads [(0, (dV a k)), (1, (vI ((m : Nat) : Int))), (2, gv), (3, (.pointer (aD z1))), (6, (.pointer (aD z2))), (7, vI 0), (8, (.pointer (aD tb)))] ρ) ?_ ?_
 ·refine T.tree [oI z2 25 [(vI 0), (vI 0), nS, nS], oI z1 25 (dC a k)] 9 mixed rfl (by exact Sub.k (.k .z)) (fun _ _ _ h => h) ?_
  refine RO.quietT 0 rfl (by kernel_rfl) (q_move rfl) ?_
  refine RO.quietT 1 rfl (by kernel_rfl) (q_fa uT25 rfl inf3 rfl rfl) ?_
  refine RO.quietT 2 rfl (by kernel_rfl) (q_lb 1 uT3 rfl rfl rfl rfl) ?_
  refine RO.quietT 3 rfl (by kernel_rfl) (q_fa uT25 rfl inf23 rfl rfl) ?_
  refine RO.quietT 4 rfl (by kernel_rfl) (q_lb 1 uT23 rfl rfl rfl rfl) ?_
  have hk18 := fun (w1 : World) (hI : Inv base ([oI z2 25 [(vI 0), (vI 0), nS, nS], oI z1 25 (dC a k)] ++ IT) w1) => (haveI := tbz hI; cloneB w1 k.fb k.fc a.final (hI.sl ha.final) (by omega))
  refine RO.fork [5, 7] (by kernel_rfl) rfl ⟨⟨_, rfl, rfl, l_call ent89 (CallT.op hk18) rfl ?_⟩, ⟨_, rfl, rfl, l_alloc inf25 rfl (fun tb => ⟨by exact Sub.d (.k (.k .z)), ?_⟩)⟩, trivial⟩
  ·clear hk18
   rintro vr O' ⟨N, rfl, cb, cc, rfl, rfl⟩
   refine ⟨by exact Sub.d (.k (.k .z)), ?_⟩
   refine RO.quietT 6 rfl (by kernel_rfl) (q_build (cs := [(vI ((m : Nat) : Int)), (vI a.start), nS, (.slice cb a.final.length cc)]) plan25 inf25 (by kernel_rfl)) ?_
   refine RO.fork [7] (by kernel_rfl) rfl ⟨⟨_, rfl, rfl, l_alloc inf25 rfl (fun tb => ⟨by exact Sub.d (.d (.k (.k .z))), ?_⟩)⟩, trivial⟩
   refine RO.fork [8] (by kernel_rfl) rfl ⟨⟨_, rfl, rfl, l_sb (v := (.agg #[(vI ((m : Nat) : Int)), (vI a.start), nS, (.slice cb a.final.length cc)])) (vs := [(vI ((m : Nat) : Int)), (vI a.start), nS, (.slice cb a.final.length cc)]) 0 inf25 rfl rfl rfl rfl rfl rfl (by simp [putL]) ⟨by exact Sub.d (.d (.k (.k .z))), ?_⟩⟩, trivial⟩
   exact RO.fin (by kernel_rfl) ⟨tb, cc, cb, rfl, (.of rfl)⟩ (by exact Sub.rf)
  have hk18 := fun (w1 : World) (hI : Inv base ([oI tb 25 [(vI 0), (vI 0), nS, nS], oI z2 25 [(vI 0), (vI 0), nS, nS], oI z1 25 (dC a k)] ++ IT) w1) => (haveI := tbz hI; cloneB w1 k.fb k.fc a.final (hI.sl ha.final) (by omega))
  refine RO.fork [5] (by kernel_rfl) rfl ⟨⟨_, rfl, rfl, l_call ent89 (CallT.op hk18) rfl ?_⟩, trivial⟩
  clear hk18
  rintro vr O' ⟨N, rfl, cb, cc, rfl, rfl⟩
  refine ⟨by exact Sub.d (.d (.k (.k .z))), ?_⟩
  refine RO.quietT 6 rfl (by kernel_rfl) (q_build (cs := [(vI ((m : Nat) : Int)), (vI a.start), nS, (.slice cb a.final.length cc)]) plan25 inf25 (by kernel_rfl)) ?_
  refine RO.fork [8] (by kernel_rfl) rfl ⟨⟨_, rfl, rfl, l_sb (v := (.agg #[(vI ((m : Nat) : Int)), (vI a.start), nS, (.slice cb a.final.length cc)])) (vs := [(vI ((m : Nat) : Int)), (vI a.start), nS, (.slice cb a.final.length cc)]) 1 inf25 rfl rfl rfl rfl rfl rfl (by simp [putL]) ⟨by exact Sub.d (.d (.k (.k .z))), ?_⟩⟩, trivial⟩
  exact RO.fin (by kernel_rfl) ⟨tb, cc, cb, rfl, (.of rfl)⟩ (by exact Sub.pull [rowI cb cc 4 1 (bools a.final)] _ (.k (.k (.k .rf))))
 rintro ρ O ⟨tb, cc, cb, rfl, hH⟩
 obtain ⟨ρ0, rfl⟩ := hH.elim
 clear hH
 refine T.s (T.s (T.rg (TO.q (q_fa uT25 rfl inf22 rfl rfl) (TO.q (q_lb 3 uT22 rfl rfl rfl rfl) (TO.q (q_len uT22 rfl) (TO.qm rfl (TO.nl (T.block (T.nilRow 37 1 ?_)))))))))
 refine T.sub (O' := ([oI tb 25 [(vI ((m : Nat) : Int)), (vI a.start), nS, (.slice cb a.final.length cc)], rowI none 0 37 1 (vals []), rowI cb cc 4 1 (bools a.final), oI z1 25 (dC a k), oI z2 25 [(vI 0), (vI 0), nS, nS]] ++ (IT ++ itms 3 []))) (Sub.ca []) ?_
 refine T.loop (fun (s : Nat) ρ O => ∃ (nb : Option Addr) (nc : Nat) (qs : List Rec), O = ([oI tb 25 [(vI ((m : Nat) : Int)), (vI a.start), (.slice nb s nc), (.slice cb a.final.length cc)], rowI nb nc 37 1 (vals qs), rowI cb cc 4 1 (bools a.final), oI z1 25 (dC a k), oI z2 25 [(vI 0), (vI 0), nS, nS]] ++ (IT ++ itms 3 qs)) ∧ s ≤ a.next.length ∧ qs.length = s ∧ nums qs = (List.range s).map (reR a L im) ∧ Heads [(0, (dV a k)), (1, (vI ((m : Nat) : Int))), (2, gv), (3, (.pointer (aD z1))), (6, (.pointer (aD z2))), (7, vI 0), (8, (.pointer (aD tb))), (21, (.slice k.nb a.next.length k.nc)), (22, vI (a.next.length : Int)), (23, vI ((s : Nat) : Int))] ρ) (fun s => a.next.length - s) 0 ?_ ?_
 ·exact ⟨none, 0, [], rfl, Nat.zero_le _, rfl, rfl, (.of rfl)⟩
 rintro s ρ O ⟨nb, nc, qs, rfl, hs, hql, hqs, hH⟩
 obtain ⟨ρ0, rfl⟩ := hH.elim
 clear hH
 refine T.s (T.rg (TO.q (q_lss rfl rfl) (TO.nl (T.s (T.condP rfl (fun hc => ?_) (fun hc => ?_))))))
 ·have hlt24 : s < a.next.length := by omega
  have hsl9 : s < a.next.length := by omega
  obtain ⟨v1, c1, g1, s1⟩ := ha.rows.get hsl9
  have hl1 : a.next[s].length = letN a := hv.len _ (List.getElem_mem hsl9)
  refine T.skip (T.s (T.block (T.s (T.rg (TO.q (q_ix (i := s) uT22 inf37 rfl rfl (Sl.o ha.outer) hsl9 (hvl ▸ hsl9)) (TO.q (q_ld uT37 rfl rfl (Sl.o ha.outer) g1) (TO.qa rfl (TO.nl (T.s (T.rg (TO.qm rfl (TO.q (QT.cast (q_shl1 (v := m) rfl rfl (by omega)) (v' := vI ((L : Nat) : Int)) (by rw [hL])) (TO.l rfl (l_makeSlice (m := L) uT37 inf3 rfl rfl (by omega) (by omega) (fun z3 => ?_)))))))))))))))
  refine TO.qa rfl (TO.nl (T.s (T.s (T.rg (TO.qm rfl (TO.q (q_len uT37 rfl) (TO.qm rfl (TO.nl (T.block ?_)))))))))
  refine T.loop (fun (x : Nat) ρ O => O = ([rowI (aD z3) L 3 1 (ints (reP a L im s x)), oI tb 25 [(vI ((m : Nat) : Int)), (vI a.start), (.slice nb s nc), (.slice cb a.final.length cc)], rowI nb nc 37 1 (vals qs), rowI cb cc 4 1 (bools a.final), oI z1 25 (dC a k), oI z2 25 [(vI 0), (vI 0), nS, nS]] ++ (IT ++ itms 3 qs)) ∧ x ≤ L ∧ Heads [(0, (dV a k)), (1, (vI ((m : Nat) : Int))), (2, gv), (3, (.pointer (aD z1))), (6, (.pointer (aD z2))), (7, vI 0), (8, (.pointer (aD tb))), (10, (.slice v1 a.next[s].length c1)), (11, (.slice (aD z3) L L)), (21, (.slice k.nb a.next.length k.nc)), (22, vI (a.next.length : Int)), (23, vI ((s : Nat) : Int)), (31, vI (L : Int)), (32, vI ((x : Nat) : Int))] ρ) (fun x => L - x) 0 ?_ ?_
  ·exact ⟨by rw [reP_zero]; rfl, Nat.zero_le _, (.of rfl)⟩
  rintro x ρ O ⟨rfl, hx, hH⟩
  obtain ⟨ρ0, rfl⟩ := hH.elim
  clear hH
  refine T.s (T.rg (TO.q (q_lss rfl rfl) (TO.nl (T.s (T.condP rfl (fun hc => ?_) (fun hc => ?_))))))
  ·have hlt33 : x < L := by omega
   have hxl : x < L := by omega
   have hil : im x < letN a := him x hxl
   obtain ⟨hto, _, hxk1, hx1⟩ := hv.toN_lt hsl9 hil
   have hx1 : (ints a.next[s])[im x]? = some (vI ((toN a s (im x) : Nat) : Int)) := by rw [ints_get hxk1, hx1]
   refine T.skip (T.s (T.block (T.s (T.rg (TO.qm rfl (TO.qa rfl (TO.nl (T.rg (TO.qm rfl (TO.qm rfl (TO.qm rfl (TO.qm rfl (TO.qm rfl (TO.q (q_conv_id uT3 uT5 rfl (wrap8 (by omega))) ?_))))))))))))))
   have hk41 := CallV.under (B := [rowI (aD z3) L 3 1 (ints (reP a L im s x)), oI tb 25 [(vI ((m : Nat) : Int)), (vI a.start), (.slice nb s nc), (.slice cb a.final.length cc)], rowI nb nc 37 1 (vals qs), rowI cb cc 4 1 (bools a.final), oI z1 25 (dC a k), oI z2 25 [(vI 0), (vI 0), nS, nS]] ++ itms 3 qs) (O := ([rowI (aD z3) L 3 1 (ints (reP a L im s x)), oI tb 25 [(vI ((m : Nat) : Int)), (vI a.start), (.slice nb s nc), (.slice cb a.final.length cc)], rowI nb nc 37 1 (vals qs), rowI cb cc 4 1 (bools a.final), oI z1 25 (dC a k), oI z2 25 [(vI 0), (vI 0), nS, nS]] ++ (IT ++ itms 3 qs))) (hg x hxl) (Sub.ca [])
   refine TO.l rfl (l_callG hk41 rfl rfl ?_)
   clear hk41
   rintro vr O' ⟨A1, rfl, rfl, hA1⟩
   have hA2 := hA1.symm
   subst hA2
   refine TO.sub (O' := ([rowI (aD z3) L 3 1 (ints (reP a L im s x)), oI tb 25 [(vI ((m : Nat) : Int)), (vI a.start), (.slice nb s nc), (.slice cb a.final.length cc)], rowI nb nc 37 1 (vals qs), rowI cb cc 4 1 (bools a.final), oI z1 25 (dC a k), oI z2 25 [(vI 0), (vI 0), nS, nS]] ++ (IT ++ itms 3 qs))) (Sub.ca []) ?_
   refine TO.q (q_ix (i := (im x)) uT37 inf3 rfl rfl (Sl.o s1) hxk1 (by rw [List.length_map]; exact hxk1)) (TO.q (q_ld uT3 rfl rfl (Sl.o s1) hx1) (TO.q (q_ix (i := x) uT37 inf3 rfl rfl (rowO (mG 0 rfl)) hxl (by rw [List.length_map, reP_len]; exact hxl)) (TO.l rfl (l_st (j := x) (v := vI ((toN a s (im x) : Nat) : Int)) (vs := [(vI ((toN a s (im x) : Nat) : Int))]) (cs := ints (reP a L im s x)) 0 inf3 rfl rfl rfl rfl rfl (by simp) rfl (by rw [List.length_map, reP_len]; simp; omega) ?_))))
   refine TO.sub (O' := ([rowI (aD z3) L 3 1 (ints (reP a L im s (x + 1))), oI tb 25 [(vI ((m : Nat) : Int)), (vI a.start), (.slice nb s nc), (.slice cb a.final.length cc)], rowI nb nc 37 1 (vals qs), rowI cb cc 4 1 (bools a.final), oI z1 25 (dC a k), oI z2 25 [(vI 0), (vI 0), nS, nS]] ++ (IT ++ itms 3 qs))) (by rw [show putL (ints (reP a L im s x)) x [(vI ((toN a s (im x) : Nat) : Int))] = ints (reP a L im s (x + 1)) from by rw [← reP_set hxl]; simp [putL]]; exact Sub.of (List.Sublist.refl _)) ?_
   refine TO.nl (T.rg (TO.q (q_addN (a := x) (b := 1) rfl rfl (by omega)) (TO.qm rfl (TO.nl ?_))))
   exact ⟨x + 1, by omega, rfl, by omega, (.of rfl)⟩
  have hge33 : ¬ x < L := by omega
  refine T.exit ?_
  refine T.rg (TO.q (q_fa uT25 rfl inf22 rfl rfl) (TO.q (q_lb 1 uT22 rfl rfl rfl rfl) (TO.qm rfl (TO.l rfl (l_build1 (v := (.slice (aD z3) L L)) uT22 inf37 rfl rfl rfl (fun z4 => ?_))))))
  refine TO.l rfl (l_append 3 uT22 uT22 inf37 rfl rfl rfl rfl (by rw [List.length_map]; omega) (by decide) (Src.row (j := 0) rfl (by simp)) (by simp [oneB]) (by omega) (by decide) (by decide) (fun z5 zc6 => ?_))
  refine TO.q (q_fa uT25 rfl inf22 rfl rfl) (TO.l rfl (l_sb (v := (.slice z5 (s + 1) zc6)) (vs := [(.slice z5 (s + 1) zc6)]) 2 inf22 rfl rfl rfl rfl rfl rfl (by simp [putL]) ?_))
  refine TO.sub (O' := ([oI tb 25 [(vI ((m : Nat) : Int)), (vI a.start), (.slice z5 (s + 1) zc6), (.slice cb a.final.length cc)], rowI z5 zc6 37 1 ((vals qs) ++ [(.slice (aD z3) L L)]), rowI cb cc 4 1 (bools a.final), oI z1 25 (dC a k), oI z2 25 [(vI 0), (vI 0), nS, nS], rowI (aD z3) L 3 1 (ints (reP a L im s x))] ++ (IT ++ itms 3 qs))) (by exact Sub.d (.pull [rowI (aD z3) L 3 1 (ints (reP a L im s x))] _ (.pull [rowI (aD z3) L 3 1 (ints (reP a L im s x))] _ (.pull [rowI (aD z3) L 3 1 (ints (reP a L im s x))] _ (.pull [rowI (aD z3) L 3 1 (ints (reP a L im s x))] _ (.pull [rowI (aD z3) L 3 1 (ints (reP a L im s x))] _ (.k .rf))))))) ?_
  refine TO.nl ?_
  have hxe : L = x := by omega
  subst hxe
  have hvq : vals (qs ++ [⟨some ⟨z3, 0, none⟩, L, reR a L im s⟩]) = vals qs ++ [.slice (aD z3) L L] := by simp [Rec.val, reR_len]
  refine T.sub (O' := (([oI tb 25 [(vI ((m : Nat) : Int)), (vI a.start), (.slice z5 (s + 1) zc6), (.slice cb a.final.length cc)], rowI z5 zc6 37 1 ((vals qs) ++ [(.slice (aD z3) L L)]), rowI cb cc 4 1 (bools a.final), oI z1 25 (dC a k), oI z2 25 [(vI 0), (vI 0), nS, nS]] ++ [rowI (aD z3) L 3 1 (ints (reR a L im s))]) ++ (IT ++ itms 3 qs))) (by rw [← reP_full]; exact Sub.rf) ?_
  refine T.sub (O' := ([oI tb 25 [(vI ((m : Nat) : Int)), (vI a.start), (.slice z5 (s + 1) zc6), (.slice cb a.final.length cc)], rowI z5 zc6 37 1 (vals (qs ++ [⟨some ⟨z3, 0, none⟩, L, reR a L im s⟩])), rowI cb cc 4 1 (bools a.final), oI z1 25 (dC a k), oI z2 25 [(vI 0), (vI 0), nS, nS]] ++ (IT ++ itms 3 (qs ++ [⟨some ⟨z3, 0, none⟩, L, reR a L im s⟩])))) (by rw [hvq]; exact Sub.foldN [oI tb 25 [(vI ((m : Nat) : Int)), (vI a.start), (.slice z5 (s + 1) zc6), (.slice cb a.final.length cc)], rowI z5 zc6 37 1 ((vals qs) ++ [(.slice (aD z3) L L)]), rowI cb cc 4 1 (bools a.final), oI z1 25 (dC a k), oI z2 25 [(vI 0), (vI 0), nS, nS]] (rowI (aD z3) L 3 1 (ints (reR a L im s))) (IT ++ itms 3 qs) (IT ++ itms 3 (qs ++ [⟨some ⟨z3, 0, none⟩, L, reR a L im s⟩])) (by rw [itms_snoc, List.append_assoc]; rfl)) ?_
  refine T.rg (TO.q (q_addN (a := s) (b := 1) rfl rfl (by omega)) (TO.qm rfl (TO.nl ?_)))
  exact ⟨s + 1, by omega, z5, zc6, qs ++ [⟨some ⟨z3, 0, none⟩, L, reR a L im s⟩], rfl, by omega, by simp [hql], by rw [List.range_succ, List.map_append, ← hqs]; simp, (.of rfl)⟩
 have hge24 : ¬ s < a.next.length := by omega
 refine T.exit ?_
 refine T.s ?_
 have hse : s = a.next.length := by omega
 obtain ⟨Tz, hT⟩ : ∃ T, T = reD a (m : Int) im := ⟨_, rfl⟩
 have e1 : nums qs = Tz.next := by rw [hT, hqs, hse, re_next a m L im hL]
 have e2 : a.final = Tz.final := by rw [hT]; rfl
 have e5 : Tz.next.length = s := by rw [hT, re_len, hse]
 have e6 : Tz.final.length = a.final.length := by rw [← e2]
 have hTv : Valid Tz := by rw [hT]; exact (HasL.re (HasL.of hv (Nat.le_refl _)) (by omega) (by omega) (fun x hx => him x (by rw [← hL]; exact hx))).valid
 obtain ⟨z9, hz9⟩ : ∃ z : DK, z = ⟨nb, nc, cb, cc, qs⟩ := ⟨_, rfl⟩
 refine T.sub (O' := (([rowI nb nc 37 1 (vals qs), rowI cb cc 4 1 (bools Tz.final)] ++ itms 3 qs) ++ [oI tb 25 [(vI ((m : Nat) : Int)), (vI a.start), (.slice nb Tz.next.length nc), (.slice cb Tz.final.length cc)], oI z1 25 (dC a k), oI z2 25 [(vI 0), (vI 0), nS, nS]])) (by rw [e5, e6, ← e2]; exact Sub.cnt IT (by intro a; simp only [itms, oI, List.set_cons_zero, List.set_cons_succ, putL, List.cons_append, List.nil_append, List.append_nil, List.append_assoc, List.map_append, List.map_cons, List.map_nil, cnt_append, cnt_cons, cnt_nil, vI, nS, aD] <;> omega)) ?_
 refine T.pack (φ := nums qs = Tz.next) e1 ?_
 refine T.sub (O' := [dI 37 4 3 Tz z9, oI tb 25 (dC Tz z9), oI z1 25 (dC a k), oI z2 25 [(vI 0), (vI 0), nS, nS]]) (by subst hz9; unfold dC dfaCells; rw [hT]; exact Sub.rf) ?_
 refine T.rg (TO.q (q_la 1 uT25 rfl inf25 rfl rfl rfl) ?_)
 have hk54 := fun (w1 : World) (hI : Inv base [dI 37 4 3 Tz z9, oI tb 25 (dC Tz z9), oI z1 25 (dC a k), oI z2 25 [(vI 0), (vI 0), nS, nS]] w1) => (haveI := tbz hI; minKE w1 Tz z9 (hI.at (k := z9) (mG 0 rfl)) hTv (by omega) (M := M) (by rw [hT]; exact hM))
 refine TO.l rfl (l_call ent34 (CallT.op hk54) rfl ?_)
 clear hk54
 rintro vr O' ⟨N, rfl, k9, rfl, rfl⟩
 refine TO.q (q_extract (vs := _) rfl rfl) (TO.q (q_extract (vs := _) rfl rfl) (TO.l rfl (l_sb (v := (dV M k9)) (vs := (dC M k9)) 4 inf25 rfl rfl rfl rfl rfl rfl (by simp [putL]) ?_)))
 refine TO.qa rfl (TO.nl (T.ret (Res.drop ?_)))
 refine Res.cell1b (vI 0) (i := 4) Tryz.results62 uT25 rfl inf25 rfl rfl rfl rfl ?_
 exact ⟨[dI 37 4 3 M k9], (by exact Sub.k .z), k9, rfl, rfl⟩
end Go.Proofs.YtohkmggbfcnapaaGreatDoor


namespace Go.Proofs.YtohkmggbfcnapaaGreatDoor
open Go.Lx Go.RowKit _root_.Go.Proofs.Tryz
theorem insBad (w : World) [Tab Tryz.prog w] (a : DFA) (k : DK) (ha : At w a k) (haa : a.next.length < 9223372036854775807) (haar : ∀ r ∈ a.next, r.length < 9223372036854775807) (haaf : a.final.length < 9223372036854775807) (he : checkD a ≠ 0) (v : Int) :
  PureT Tryz.prog 27 [dV a k, vI v] w fun v9 N => v9 = .tuple #[dV noD ⟨none, 0, none, 0, []⟩, vI (checkD a : Int)] ∧ N = [] := by
 refine CallT.enter func27 rfl ntmps27 rfl ?_
 refine T.s (T.rg (TO.l rfl (l_box (v := (dV a k)) (cs := (dC a k)) rfl rfl (fun bx1 => ?_))))
 refine TO.l rfl (l_alloc inf25 rfl (fun bx2 => ?_))
 refine TO.qa rfl (TO.nl (T.s (T.s (T.rg (TO.q (q_la 1 uT25 rfl inf25 rfl rfl rfl) ?_)))))
 have hk9 := fun (w1 : World) (hI : Inv w [oI bx2 25 [(vI 0), (vI 0), nS, nS], oI bx1 25 (dC a k)] w1) => (haveI := tbz hI; subsetCheck w1 a k.nb k.fb k.nc k.fc (vals k.qs) (hI.dfa ha) haa haar haaf)
 refine TO.l rfl (l_call ent35 (CallT.op hk9) rfl ?_)
 clear hk9
 rintro vr O' ⟨N, rfl, rfl, rfl⟩
 refine TO.qa rfl (TO.nl (T.s (T.rg (TO.qm rfl (TO.q (QT.toB (q_neq rfl rfl) (decide_eq_true (by omega))) (TO.nl ?_))))))
 refine T.cond1 rfl ?_
 refine T.s (T.rg (TO.q (q_build plan25 inf25 rfl) (TO.qm rfl (TO.l rfl (l_sb (v := (.agg #[(vI 0), (vI 0), nS, nS])) (vs := [(vI 0), (vI 0), nS, nS]) 0 inf25 rfl rfl rfl rfl rfl rfl (by simp [putL]) ?_)))))
 refine TO.qa rfl (TO.nl (T.ret (Res.drop ?_)))
 refine Res.cell1b (vI (checkD a : Int)) (i := 0) Tryz.results27 uT25 rfl inf25 rfl rfl rfl rfl ?_
 exact ⟨[], Sub.z, rfl, rfl⟩
theorem insVars (w : World) [Tab Tryz.prog w] (a : DFA) (k : DK) (ha : At w a k) (hv : Valid a) (v : Int) (hb : v < 0 ∨ a.vars < v ∨ a.vars = 6) :
  PureT Tryz.prog 27 [dV a k, vI v] w fun v9 N => v9 = .tuple #[dV noD ⟨none, 0, none, 0, []⟩, vI 7] ∧ N = [] := by
 refine CallT.enter func27 rfl ntmps27 rfl ?_
 have he := checkD_zero.2 hv
 have h4 := hv.n4
 have hww : letN a ≤ 64 := hv.width
 have hfin := hv.fin
 have hvl := ha.rows.1
 have hsl := start_lt hv.toVal
 have hs0 := hv.s0
 have hs1 := hv.s1
 refine T.s (T.rg (TO.l rfl (l_box (v := (dV a k)) (cs := (dC a k)) rfl rfl (fun bx1 => ?_))))
 refine TO.l rfl (l_alloc inf25 rfl (fun bx2 => ?_))
 refine TO.qa rfl (TO.nl (T.s (T.s (T.rg (TO.q (q_la 1 uT25 rfl inf25 rfl rfl rfl) ?_)))))
 have hk9 := fun (w1 : World) (hI : Inv w [oI bx2 25 [(vI 0), (vI 0), nS, nS], oI bx1 25 (dC a k)] w1) => (haveI := tbz hI; (show PureT _ _ _ _ _ from by
   have h9 := subsetCheck w1 a k.nb k.fb k.nc k.fc (vals k.qs) (hI.dfa ha) (by omega) hv.bound (by omega)
   rw [he] at h9
   exact h9))
 refine TO.l rfl (l_call ent35 (CallT.op hk9) rfl ?_)
 clear hk9
 rintro vr O' ⟨N, rfl, rfl, rfl⟩
 refine TO.qa rfl (TO.nl (T.s (T.rg (TO.qm rfl (TO.q (q_neq rfl rfl) (TO.nl (T.cond0 rfl (T.skip (T.s (T.s (T.rg (TO.qm rfl (TO.q (q_lss rfl rfl) ?_)))))))))))))
 by_cases hs16 : v < 0
 ·refine TO.q (QT.toB (q_move rfl) (decide_eq_true hs16)) ?_
  refine TO.pd rfl rfl (TO.pd rfl rfl (TO.pd rfl rfl (TO.pd rfl rfl (TO.q (q_pick1 rfl rfl) (TO.qm rfl (TO.pd rfl rfl (TO.pd rfl rfl (TO.pd rfl rfl ?_))))))))
  refine TO.q (q_pick1 rfl rfl) (TO.nl ?_)
  refine T.cond1 rfl ?_
  refine T.s (T.rg (TO.q (q_build plan25 inf25 rfl) (TO.l rfl (l_sb (v := (.agg #[(vI 0), (vI 0), nS, nS])) (vs := [(vI 0), (vI 0), nS, nS]) 0 inf25 rfl rfl rfl rfl rfl rfl (by simp [putL]) ?_))))
  refine TO.qa rfl (TO.nl (T.ret (Res.drop ?_)))
  refine Res.cell1b (vI 7) (i := 0) Tryz.results27 uT25 rfl inf25 rfl rfl rfl rfl ?_
  exact ⟨[], Sub.z, rfl, rfl⟩
 refine TO.q (QT.toB (q_move rfl) (decide_eq_false hs16)) (TO.gq rfl rfl (q_move rfl) (TO.gq rfl rfl (q_fa uT25 rfl inf3 rfl rfl) (TO.gq rfl rfl (q_lb 1 uT3 rfl rfl rfl rfl) (TO.gq rfl rfl (q_gtr rfl rfl) (TO.q (q_pick0 rfl rfl) ?_)))))
 by_cases hs22 : v > a.vars
 ·refine TO.q (QT.toB (q_move rfl) (decide_eq_true hs22)) ?_
  refine TO.pd rfl rfl (TO.pd rfl rfl (TO.pd rfl rfl (TO.q (q_pick1 rfl rfl) (TO.nl ?_))))
  refine T.cond1 rfl ?_
  refine T.s (T.rg (TO.q (q_build plan25 inf25 rfl) (TO.l rfl (l_sb (v := (.agg #[(vI 0), (vI 0), nS, nS])) (vs := [(vI 0), (vI 0), nS, nS]) 0 inf25 rfl rfl rfl rfl rfl rfl (by simp [putL]) ?_))))
  refine TO.qa rfl (TO.nl (T.ret (Res.drop ?_)))
  refine Res.cell1b (vI 7) (i := 0) Tryz.results27 uT25 rfl inf25 rfl rfl rfl rfl ?_
  exact ⟨[], Sub.z, rfl, rfl⟩
 refine TO.q (QT.toB (q_move rfl) (decide_eq_false hs22)) (TO.gq rfl rfl (q_fa uT25 rfl inf3 rfl rfl) (TO.gq rfl rfl (q_lb 1 uT3 rfl rfl rfl rfl) (TO.gq rfl rfl (q_eql rfl rfl) (TO.q (q_pick0 rfl rfl) (TO.nl ?_)))))
 refine T.cond1 (congrArg Value.bool (decide_eq_true (by omega))) ?_
 refine T.s (T.rg (TO.q (q_build plan25 inf25 rfl) (TO.l rfl (l_sb (v := (.agg #[(vI 0), (vI 0), nS, nS])) (vs := [(vI 0), (vI 0), nS, nS]) 0 inf25 rfl rfl rfl rfl rfl rfl (by simp [putL]) ?_))))
 refine TO.qa rfl (TO.nl (T.ret (Res.drop ?_)))
 refine Res.cell1b (vI 7) (i := 0) Tryz.results27 uT25 rfl inf25 rfl rfl rfl rfl ?_
 exact ⟨[], Sub.z, rfl, rfl⟩
theorem insOk (w : World) [Tab Tryz.prog w] (a : DFA) (k : DK) (ha : At w a k) (hv : Valid a) (v : Nat) (hva : (v : Int) ≤ a.vars) (h5 : a.vars < 6) {M : DFA} (hM : minD (reD a ((a.vars.toNat + 1 : Nat) : Int) (cut v)) = M) :
  PureT Tryz.prog 27 [dV a k, vI ((v : Nat) : Int)] w fun v9 N => ∃ k9 : DK, v9 = .tuple #[dV M k9, vI 0] ∧ N = [dI 37 4 3 M k9] := by
 refine CallT.enter func27 rfl ntmps27 rfl ?_
 have he := checkD_zero.2 hv
 have h4 := hv.n4
 have hww : letN a ≤ 64 := hv.width
 have hfin := hv.fin
 have hvl := ha.rows.1
 have hsl := start_lt hv.toVal
 have hs0 := hv.s0
 have hs1 := hv.s1
 have hv0 := hv.v0
 have hp : 2 ^ v ≤ 2 ^ 5 := Nat.pow_le_pow_right (by decide) (by omega)
 have hp0 : 0 < 2 ^ v := Nat.pow_pos (by decide)
 refine T.s (T.rg (TO.l rfl (l_box (v := (dV a k)) (cs := (dC a k)) rfl rfl (fun z1 => ?_))))
 refine TO.l rfl (l_alloc inf25 rfl (fun z2 => ?_))
 refine TO.qa rfl (TO.nl (T.s (T.s (T.rg (TO.q (q_la 1 uT25 rfl inf25 rfl rfl rfl) ?_)))))
 have hk9 := fun (w1 : World) (hI : Inv w [oI z2 25 [(vI 0), (vI 0), nS, nS], oI z1 25 (dC a k)] w1) => (haveI := tbz hI; (show PureT _ _ _ _ _ from by
   have h9 := subsetCheck w1 a k.nb k.fb k.nc k.fc (vals k.qs) (hI.dfa ha) (by omega) hv.bound (by omega)
   rw [he] at h9
   exact h9))
 refine TO.l rfl (l_call ent35 (CallT.op hk9) rfl ?_)
 clear hk9
 rintro vr O' ⟨N, rfl, rfl, rfl⟩
 refine TO.qa rfl (TO.nl (T.s (T.rg (TO.qm rfl (TO.q (q_neq rfl rfl) (TO.nl (T.cond0 rfl (T.skip (T.s (T.s (T.rg (TO.qm rfl (TO.q (QT.toB (q_lss rfl rfl) (decide_eq_false (by omega))) (TO.qm rfl (TO.gq rfl rfl (q_move rfl) ?_)))))))))))))))
 refine TO.gq rfl rfl (q_fa uT25 rfl inf3 rfl rfl) (TO.gq rfl rfl (q_lb 1 uT3 rfl rfl rfl rfl) (TO.gq rfl rfl (QT.toB (q_gtr rfl rfl) (decide_eq_false (by omega))) (TO.q (q_pick0 rfl rfl) (TO.qm rfl (TO.gq rfl rfl (q_fa uT25 rfl inf3 rfl rfl) (TO.gq rfl rfl (q_lb 1 uT3 rfl rfl rfl rfl) (TO.gq rfl rfl (QT.toB (q_eql rfl rfl) (decide_eq_false (by omega))) (TO.q (q_pick0 rfl rfl) ?_))))))))
 refine TO.nl (T.cond0 rfl (T.skip (T.s (T.rg (TO.qm rfl (TO.q (QT.cast (q_shlU (a := 1) (b := v) .u8 rfl rfl (by simp only [IntKind.bits]; omega) (by simp only [IntKind.bits]; omega)) (v' := .int .u8 ((2 ^ v : Nat) : Int)) (by rw [Nat.one_mul])) (TO.q (q_subU (a := 2 ^ v) (b := 1) .u8 rfl rfl (by simp only [IntKind.bits]; omega) (by omega)) (TO.l rfl (l_alloc inf5 rfl (fun z3 => ?_))))))))))
 refine TO.l rfl (l_sb (v := .int .u8 ((2 ^ v - 1 : Nat) : Int)) (vs := [(.int .u8 ((2 ^ v - 1 : Nat) : Int))]) 0 inf5 rfl rfl rfl rfl rfl rfl (by simp [putL]) ?_)
 refine TO.nl (T.s (T.rg (TO.q (q_la 2 uT25 rfl inf25 rfl rfl rfl) (TO.q (q_fa uT25 rfl inf3 rfl rfl) (TO.q (q_lb 2 uT3 rfl rfl rfl rfl) (TO.q (QT.cast (q_add64 rfl rfl (by omega)) (v' := vI ((a.vars.toNat + 1 : Nat) : Int)) (congrArg (Value.int .i64) (by omega))) (TO.q (q_makeFunc) (TO.l rfl (l_call ent62 (CallT.un [0] (rebF w a k ha hv (a.vars.toNat + 1) (by omega) _ rfl (cut v) (fun x hx => cut_lt a.vars.toNat (by omega) v (by omega) x hx) (.func (.func 64) #[] #[(.pointer (aD z3))]) [oI z3 5 [(.int .u8 ((2 ^ v - 1 : Nat) : Int))]] (fun x hx => CallV.of_fn (first := []) (args := [.int .u8 ((x : Nat) : Int)]) (caps := [(.pointer (aD z3))]) ent64 (insF w z3 v x (by omega) (Nat.lt_of_lt_of_le hx (Nat.pow_le_pow_right (n := 2) (by decide) (show a.vars.toNat + 1 ≤ 6 by omega))))) hM)) rfl ?_)))))))))
 rintro vr O' ⟨A1, rfl, k9, rfl, rfl⟩
 refine TO.q (q_extract (vs := _) rfl rfl) (TO.q (q_extract (vs := _) rfl rfl) (TO.l rfl (l_sb (v := (dV M k9)) (vs := (dC M k9)) 1 inf25 rfl rfl rfl rfl rfl rfl (by simp [putL]) ?_)))
 refine TO.qa rfl (TO.nl (T.ret (Res.drop ?_)))
 refine Res.cell1b (vI 0) (i := 1) Tryz.results27 uT25 rfl inf25 rfl rfl rfl rfl ?_
 exact ⟨[dI 37 4 3 M k9], (by exact Sub.k .z), k9, rfl, rfl⟩
theorem insC (w : World) [Tab Tryz.prog w] (a : DFA) (k : DK) (ha : At w a k) (haa : a.next.length < 9223372036854775807) (haar : ∀ r ∈ a.next, r.length < 9223372036854775807) (haaf : a.final.length < 9223372036854775807) (v : Int) :
  PureT Tryz.prog 27 [dV a k, vI v] w fun v9 N => ∃ k9 : DK, v9 = .tuple #[dV (inV a v) k9, vI (inE2 a v : Int)] ∧ N = [dI 37 4 3 (inV a v) k9] := by
 by_cases he : checkD a ≠ 0
 ·have e1 : inE2 a v = checkD a := by unfold inE2; rw [if_pos he]
  have e2 : inV a v = noD := by unfold inV; rw [if_neg (by omega)]
  rw [e1, e2]
  refine (CallT.nilD 37 4 3 (insBad w a k ha haa haar haaf he v)).mono ?_
  rintro v9 N ⟨O2, rfl, rfl, rfl⟩
  exact ⟨k00, rfl, rfl⟩
 ·have hv : Valid a := checkD_zero.1 (by omega)
  by_cases hb : v < 0 ∨ a.vars < v ∨ a.vars = 6
  ·have e1 : inE2 a v = 7 := by unfold inE2; rw [if_neg he, if_pos hb]
   have e2 : inV a v = noD := by unfold inV; rw [if_neg (by omega)]
   rw [e1, e2]
   refine (CallT.nilD 37 4 3 (insVars w a k ha hv v hb)).mono ?_
   rintro v9 N ⟨O2, rfl, rfl, rfl⟩
   exact ⟨k00, rfl, rfl⟩
  ·have e1 : inE2 a v = 0 := by unfold inE2; rw [if_neg he, if_neg hb]
   have e2 : inV a v = minD (reD a (a.vars + 1) (cut v.toNat)) := by unfold inV; rw [if_pos e1]
   have hv0 := hv.v0
   have hv6 := hv.v6
   rw [e1, e2]
   obtain ⟨n, rfl⟩ : ∃ n : Nat, v = n := ⟨v.toNat, by omega⟩
   exact insOk w a k ha hv n (by omega) (by omega) (by rw [show ((a.vars.toNat + 1 : Nat) : Int) = a.vars + 1 by omega]; rfl)
end Go.Proofs.YtohkmggbfcnapaaGreatDoor


namespace Go.Proofs.YtohkmggbfcnapaaGreatDoor
open Go.Lx Go.RowKit _root_.Go.Proofs.Tryz
theorem ignBad (w : World) [Tab Tryz.prog w] (a : DFA) (k : DK) (ha : At w a k) (haa : a.next.length < 9223372036854775807) (haar : ∀ r ∈ a.next, r.length < 9223372036854775807) (haaf : a.final.length < 9223372036854775807) (v : Int) (he : vE a v ≠ 0) :
  PureT Tryz.prog 18 [dV a k, vI v] w fun r N => r = .tuple #[.bool false, vI (vE a v : Int)] ∧ N = [] := by
 refine CallT.enter func18 rfl ntmps18 rfl ?_
 refine T.s (T.rg (TO.l rfl (l_box (v := (dV a k)) (cs := (dC a k)) rfl rfl (fun bx1 => ?_))))
 refine TO.l rfl (l_alloc inf4 rfl (fun bx2 => ?_))
 refine TO.l rfl (l_alloc inf29 rfl (fun bx3 => ?_))
 refine TO.nl (T.s (T.s (T.rg (TO.q (q_la 2 uT25 rfl inf25 rfl rfl rfl) (TO.qm rfl ?_)))))
 have hk16 := fun (w1 : World) (hI : Inv w [oI bx3 29 [(vI 0)], oI bx2 4 [(.bool false)], oI bx1 25 (dC a k)] w1) => (haveI := tbz hI; pCheck w1 a k (hI.atB ha) haa haar haaf v)
 refine TO.l rfl (l_call ent48 (CallT.op hk16) rfl ?_)
 clear hk16
 rintro vr O' ⟨N, rfl, rfl, rfl⟩
 refine TO.qa rfl (TO.nl (T.s (T.rg (TO.qm rfl (TO.q (QT.toB (q_neq rfl rfl) (decide_eq_true (by omega))) (TO.nl ?_))))))
 refine T.cond1 rfl ?_
 refine T.s (T.rg (TO.qm rfl (TO.l rfl (l_sb (v := .bool false) (vs := [(.bool false)]) 1 inf4 rfl rfl rfl rfl rfl rfl (by simp [putL]) ?_))))
 refine TO.l rfl (l_sb (v := vI (vE a v : Int)) (vs := [(vI (vE a v : Int))]) 0 inf29 rfl rfl rfl rfl rfl rfl (by simp [putL]) ?_)
 refine TO.nl (T.ret (Res.drop ?_))
 refine Res.cell2s (i := 1) (j := 0) Tryz.results18 uT4 rfl uT29 rfl rfl rfl rfl rfl ?_
 exact ⟨[], Sub.z, rfl, rfl⟩
theorem ignOk (w : World) [Tab Tryz.prog w] (a : DFA) (k : DK) (ha : At w a k) (hv : Valid a) (v : Nat) (hva : (v : Int) < a.vars) {M : DFA} (hM : minD a = M) :
  PureT Tryz.prog 18 [dV a k, vI ((v : Nat) : Int)] w fun r N => r = .tuple #[.bool (ignB M v), vI 0] ∧ N = [] := by
 refine CallT.enter func18 rfl ntmps18 rfl ?_
 have he := checkD_zero.2 hv
 have h4 := hv.n4
 have hww : letN a ≤ 64 := hv.width
 have hfin := hv.fin
 have hvl := ha.rows.1
 have hsl := start_lt hv.toVal
 have hs0 := hv.s0
 have hs1 := hv.s1
 have hve : vE a v = 0 := vE_zero.2 ⟨hv, by omega, hva⟩
 have hMv : Valid M := hM ▸ minD_valid hv
 have hMs : M.vars = a.vars := by rw [← hM]; rfl
 have hv6 := hv.v6
 have hMn := hMv.n4
 have hlw : letN M ≤ 64 := hMv.width
 refine T.s (T.rg (TO.l rfl (l_box (v := (dV a k)) (cs := (dC a k)) rfl rfl (fun z1 => ?_))))
 refine TO.l rfl (l_alloc inf4 rfl (fun z2 => ?_))
 refine TO.l rfl (l_alloc inf29 rfl (fun z3 => ?_))
 refine TO.nl (T.s (T.s (T.rg (TO.q (q_la 2 uT25 rfl inf25 rfl rfl rfl) (TO.qm rfl ?_)))))
 have hk16 := fun (w1 : World) (hI : Inv w [oI z3 29 [(vI 0)], oI z2 4 [(.bool false)], oI z1 25 (dC a k)] w1) => (haveI := tbz hI; (show PureT _ _ _ _ _ from by
   have h9 := pCheck w1 a k (hI.atB ha) (by omega) hv.bound (by omega) (v : Int)
   rw [hve] at h9
   exact h9))
 refine TO.l rfl (l_call ent48 (CallT.op hk16) rfl ?_)
 clear hk16
 rintro vr O' ⟨N, rfl, rfl, rfl⟩
 refine TO.qa rfl (TO.nl (T.s (T.rg (TO.qm rfl (TO.q (QT.toB (q_neq rfl rfl) (decide_eq_false (by omega))) (TO.nl (T.cond0 rfl (T.skip (T.s (T.rg (TO.q (q_la 2 uT25 rfl inf25 rfl rfl rfl) ?_)))))))))))
 have hk22 := fun (w1 : World) (hI : Inv w [oI z3 29 [(vI 0)], oI z2 4 [(.bool false)], oI z1 25 (dC a k)] w1) => (haveI := tbz hI; minKE w1 a k (hI.atB ha) hv (by omega) (M := M) hM)
 refine TO.l rfl (l_call ent34 (CallT.op hk22) rfl ?_)
 clear hk22
 rintro vr O' ⟨N, rfl, k9, rfl, rfl⟩
 refine TO.qm rfl (TO.q (q_extract (vs := _) rfl rfl) (TO.q (q_extract (vs := _) rfl rfl) (TO.l rfl (l_alloc inf25 rfl (fun z4 => ?_)))))
 refine TO.l rfl (l_sb (v := (dV M k9)) (vs := (dC M k9)) 0 inf25 rfl rfl rfl rfl rfl rfl (by simp [putL]) ?_)
 refine TO.qa rfl (TO.nl (T.s (T.s ?_)))
 refine T.have (φ := nums k9.qs = M.next) (fun w9 hI => dI_nums hI (mG 1 rfl)) (fun hqs => ?_)
 have hvl9 : (vals k9.qs).length = M.next.length := by rw [← hqs]; simp
 refine T.rg (TO.q (q_fa uT25 rfl inf22 rfl rfl) (TO.q (q_lb 0 uT22 rfl rfl rfl rfl) (TO.q (q_len uT22 rfl) (TO.qm rfl (TO.nl (T.block ?_))))))
 refine T.loopS (fun (s : Nat) ρ O => O = [oI z4 25 (dC M k9), dI 37 4 3 M k9, oI z3 29 [(vI 0)], oI z2 4 [(.bool false)], oI z1 25 (dC a k)] ∧ s ≤ M.next.length ∧ (∀ s1, s1 < s → ∀ x, x < letN M → toN M s1 (c0 v x) = toN M s1 x) ∧ Heads [(0, (dV a k)), (1, vI ((v : Nat) : Int)), (2, (.pointer (aD z1))), (4, (.pointer (aD z2))), (5, (.pointer (aD z3))), (6, vI 0), (7, (.pointer (aD z4))), (26, (.slice k9.nb M.next.length k9.nc)), (27, vI (M.next.length : Int)), (28, vI ((s : Nat) : Int))] ρ) (fun s => M.next.length - s) 0 ?_ ?_
 ·exact ⟨rfl, Nat.zero_le _, fun s1 h => absurd h (by omega), (.of rfl)⟩
 rintro s ρ O ⟨rfl, hs, hall, hH⟩
 obtain ⟨ρ0, rfl⟩ := hH.elim
 clear hH
 refine T.s (T.rg (TO.q (q_lss rfl rfl) (TO.nl (T.s (T.condP rfl (fun hc => ?_) (fun hc => ?_))))))
 ·have hlt29 : s < M.next.length := by omega
  have hsl : s < M.next.length := by omega
  obtain ⟨q0, hq0, hz0⟩ := dk_row hqs hsl
  have hl1 : M.next[s].length = letN M := hMv.len _ (List.getElem_mem hsl)
  have hg9 : (vals k9.qs)[s]? = some (.slice q0.b M.next[s].length q0.c) := by rw [rvals_at hq0, hz0]
  refine T.skip (T.s (T.block (T.s (T.rg (TO.q (q_ix (i := s) uT22 inf37 rfl rfl (dI_outer (mG 1 rfl)) hsl (hvl9 ▸ hsl)) (TO.q (q_ld uT37 rfl rfl (dI_outer (mG 1 rfl)) hg9) (TO.l rfl (l_alloc inf37 rfl (fun z5 => ?_)))))))))
  refine TO.l rfl (l_sb (v := (.slice q0.b M.next[s].length q0.c)) (vs := [(.slice q0.b M.next[s].length q0.c)]) 0 inf37 rfl rfl rfl rfl rfl rfl (by simp [putL]) ?_)
  refine TO.nl (T.s (T.rg (TO.q (q_lb 0 uT37 rfl rfl rfl rfl) (TO.q (q_len uT37 rfl) (TO.qm rfl (TO.nl (T.block ?_)))))))
  refine T.loopS (fun (x : Nat) ρ O => O = [oI z5 37 [(.slice q0.b M.next[s].length q0.c)], oI z4 25 (dC M k9), dI 37 4 3 M k9, oI z3 29 [(vI 0)], oI z2 4 [(.bool false)], oI z1 25 (dC a k)] ∧ x ≤ M.next[s].length ∧ (∀ x1, x1 < x → toN M s (c0 v x1) = toN M s x1) ∧ Heads [(0, (dV a k)), (1, vI ((v : Nat) : Int)), (2, (.pointer (aD z1))), (4, (.pointer (aD z2))), (5, (.pointer (aD z3))), (6, vI 0), (7, (.pointer (aD z4))), (10, (.pointer (aD z5))), (26, (.slice k9.nb M.next.length k9.nc)), (27, vI (M.next.length : Int)), (28, vI ((s : Nat) : Int)), (32, (.slice q0.b M.next[s].length q0.c)), (33, vI (M.next[s].length : Int)), (34, vI ((x : Nat) : Int))] ρ) (fun x => M.next[s].length - x) 0 ?_ ?_
  ·exact ⟨rfl, Nat.zero_le _, fun x1 h => absurd h (by omega), (.of rfl)⟩
  rintro x ρ O ⟨rfl, hx, hrow, hH⟩
  obtain ⟨ρ0, rfl⟩ := hH.elim
  clear hH
  refine T.s (T.rg (TO.q (q_lss rfl rfl) (TO.nl (T.s (T.condP rfl (fun hc => ?_) (fun hc => ?_))))))
  ·have hlt35 : x < M.next[s].length := by omega
   have hxl : x < letN M := by omega
   obtain ⟨hto, _, hxk1, hx1⟩ := hMv.toN_lt hsl hxl
   have hx1 : (ints M.next[s])[x]? = some (vI ((toN M s x : Nat) : Int)) := by rw [ints_get hxk1, hx1]
   refine T.skip (T.s (T.block (T.s (T.rg (TO.qm rfl (TO.q (q_ix (i := x) uT37 inf3 rfl rfl (dI_row (mG 2 rfl) hq0 hz0) hxk1 (by rw [List.length_map]; exact hxk1)) (TO.q (q_ld uT3 rfl rfl (dI_row (mG 2 rfl) hq0 hz0) hx1) (TO.l rfl (l_alloc inf3 rfl (fun z6 => ?_))))))))))
   refine TO.qa rfl (TO.l rfl (l_sb (v := vI ((toN M s x : Nat) : Int)) (vs := [(vI ((toN M s x : Nat) : Int))]) 0 inf3 rfl rfl rfl rfl rfl rfl (by simp [putL]) ?_))
   refine TO.nl (T.s (T.rg (TO.qm rfl (TO.q (q_conv_id uT3 uT5 rfl (wrap8 (by omega))) (TO.qm rfl ?_)))))
   have hk42 := fun (w1 : World) (hI : Inv w [oI z6 3 [(vI ((toN M s x : Nat) : Int))], oI z5 37 [(.slice q0.b M.next[s].length q0.c)], oI z4 25 (dC M k9), dI 37 4 3 M k9, oI z3 29 [(vI 0)], oI z2 4 [(.bool false)], oI z1 25 (dC a k)] w1) => (haveI := tbz hI; variMk w1 x v)
   refine TO.l rfl (l_call ent52 (CallT.op hk42) rfl ?_)
   clear hk42
   rintro vr O' ⟨N, rfl, xb, vb, rfl, rfl⟩
   refine TO.nl (T.block ?_)
   refine T.rangeFunc (first := []) (caps := [(.pointer (aD vb)), (.pointer (aD xb))]) rfl ent87 (fun yl yq yhq => ?_)
   refine CallT.mono (CallT.sub (O' := oI vb 3 [(vI ((v : Nat) : Int))] :: oI xb 5 [(.int .u8 ((x : Nat) : Int))] :: (objI yl (lp yq none) :: [oI z6 3 [(vI ((toN M s x : Nat) : Int))], oI z5 37 [(.slice q0.b M.next[s].length q0.c)], oI z4 25 (dC M k9), dI 37 4 3 M k9, oI z3 29 [(vI 0)], oI z2 4 [(.bool false)], oI z1 25 (dC a k)])) (Sub.pick [1, 1, 0, 0, 0, 0, 0, 0, 0, 0] rfl) (variF w xb vb v x (by omega) (by omega) (.func (.yield yl) #[] #[]) (fun i9 O => O = objI yl (lp yq none) :: [oI z6 3 [(vI ((toN M s x : Nat) : Int))], oI z5 37 [(.slice q0.b M.next[s].length q0.c)], oI z4 25 (dC M k9), dI 37 4 3 M k9, oI z3 29 [(vI 0)], oI z2 4 [(.bool false)], oI z1 25 (dC a k)] ∧ (0 < i9 → toN M s (c0 v x) = toN M s x)) (fun O => O = objI yl (lp yq (some .ret)) :: [oI z6 3 [(vI ((toN M s x : Nat) : Int))], oI z5 37 [(.slice q0.b M.next[s].length q0.c)], oI z4 25 (dC M k9), dI 37 4 3 M k9, oI z3 29 [(vI 0)], oI z2 4 [(.bool false)], oI z1 25 (dC a k)] ∧ ignB M v = false) ?_ _ ?_)) ?_
   ·intro i y O hiy hJ
    obtain ⟨rfl, hJ0⟩ := hJ
    refine CallV.yield yhq rfl rfl ?_
    have hyy : y = c0 v x ∨ y = c1 v x := hiy.elim (fun h => .inl h.2) (fun h => .inr h.2)
    have hyl : y < letN M := by
     rcases hyy with rfl | rfl
     ·exact c0_lt hxl
     ·exact c1_lt (letN6 hMv.toVal) (by omega) hxl
    obtain ⟨hty, _, hyk1, hy1⟩ := hMv.toN_lt hsl hyl
    have hy1 : (ints M.next[s])[y]? = some (vI ((toN M s y : Nat) : Int)) := by rw [ints_get hyk1, hy1]
    refine T.rg (TO.qa rfl (TO.nl (T.block (T.s ?_))))
    refine T.draws _ [(0, 0), (1, 0), (2, 0), (3, 0), (4, 0), (5, 0)] mixed (by kernel_rfl) (Sub.of (List.Sublist.refl _)) (fun _ _ _ h => h) ?_
    refine DO.q rfl (q_lb 1 uT37 rfl rfl rfl rfl) (DO.q rfl (q_move rfl) (DO.q rfl (q_ix (i := y) uT37 inf3 rfl rfl (dI_row (mG 3 rfl) hq0 hz0) hyk1 (by rw [List.length_map]; exact hyk1)) (DO.q rfl (q_ld uT3 rfl rfl (dI_row (mG 3 rfl) hq0 hz0) hy1) (DO.q rfl (q_lb 0 uT3 rfl rfl rfl rfl) (DO.q rfl (q_neq rfl rfl) ?_)))))
    refine DO.done ?_
    refine T.condP rfl (fun hc => ?_) (fun hc => ?_)
    ·have hlt49 : toN M s y ≠ toN M s x := by omega
     refine T.s (T.rg (TO.l rfl (l_sb (v := .bool false) (vs := [(.bool false)]) 5 inf4 rfl rfl rfl rfl rfl rfl (by simp [putL]) ?_)))
     refine TO.l rfl (l_sb (v := vI 0) (vs := [(vI 0)]) 4 inf29 rfl rfl rfl rfl rfl rfl (by simp [putL]) ?_)
     refine TO.nl (T.ret ?_)
     exact .inr ⟨rfl, rfl, ign_no (by omega) (letN6 hMv.toVal) hsl hxl hyy (by omega)⟩
    have hge49 : ¬ toN M s y ≠ toN M s x := by omega
    refine T.skip ?_
    refine .inl ⟨rfl, rfl, fun _ => ?_⟩
    rcases hiy with ⟨rfl, rfl⟩ | ⟨rfl, rfl⟩
    ·omega
    ·exact hJ0 (by decide)
   ·exact ⟨rfl, fun h => absurd h (by decide)⟩
   rintro v9 O' (⟨rfl, hx0⟩ | ⟨rfl, hno⟩)
   ·refine ⟨none, _, rfl, ?_⟩
    have hx0 := hx0 (by decide)
    refine T.rg (TO.q (q_addN (a := x) (b := 1) rfl rfl (by omega)) (TO.qm rfl (TO.nl ?_)))
    exact ⟨x + 1, by omega, [oI z5 37 [(.slice q0.b M.next[s].length q0.c)], oI z4 25 (dC M k9), dI 37 4 3 M k9, oI z3 29 [(vI 0)], oI z2 4 [(.bool false)], oI z1 25 (dC a k)], (by exact Sub.d (.k (.k (.k (.k (.k (.k .z))))))), rfl, by omega, fun x1 h1 => (Nat.lt_succ_iff_lt_or_eq.1 h1).elim (fun h => hrow x1 h) (fun h => h ▸ hx0), (.of rfl)⟩
   refine ⟨some .ret, _, rfl, ?_⟩
   refine Res.drop ?_
   refine Res.cell2s (i := 5) (j := 4) Tryz.results18 uT4 rfl uT29 rfl rfl rfl rfl rfl ?_
   rw [hno]
   exact ⟨[], Sub.z, rfl, rfl⟩
  have hge35 : ¬ x < M.next[s].length := by omega
  refine T.exit ?_
  refine T.rg (TO.q (q_addN (a := s) (b := 1) rfl rfl (by omega)) (TO.qm rfl (TO.nl ?_)))
  have hxe : x = letN M := by omega
  exact ⟨s + 1, by omega, [oI z4 25 (dC M k9), dI 37 4 3 M k9, oI z3 29 [(vI 0)], oI z2 4 [(.bool false)], oI z1 25 (dC a k)], (by exact Sub.d (.k (.k (.k (.k (.k .z)))))), rfl, by omega, fun s1 h1 x1 hx1 => (Nat.lt_succ_iff_lt_or_eq.1 h1).elim (fun h => hall s1 h x1 hx1) (fun h => h ▸ hrow x1 (by omega)), (.of rfl)⟩
 have hge29 : ¬ s < M.next.length := by omega
 refine T.exit ?_
 refine T.s (T.rg (TO.l rfl (l_sb (v := .bool true) (vs := [(.bool true)]) 3 inf4 rfl rfl rfl rfl rfl rfl (by simp [putL]) ?_)))
 refine TO.l rfl (l_sb (v := vI 0) (vs := [(vI 0)]) 2 inf29 rfl rfl rfl rfl rfl rfl (by simp [putL]) ?_)
 refine TO.nl (T.ret (Res.drop ?_))
 refine Res.cell2s (i := 3) (j := 2) Tryz.results18 uT4 rfl uT29 rfl rfl rfl rfl rfl ?_
 rw [ign_yes (m := M) (v := v) (fun s1 h1 x1 hx1 => hall s1 (by omega) x1 hx1)]
 exact ⟨[], Sub.z, rfl, rfl⟩
theorem ignC (w : World) [Tab Tryz.prog w] (a : DFA) (k : DK) (ha : At w a k) (haa : a.next.length < 9223372036854775807) (haar : ∀ r ∈ a.next, r.length < 9223372036854775807) (haaf : a.final.length < 9223372036854775807) (v : Int) :
  PureT Tryz.prog 18 [dV a k, vI v] w fun r N => r = .tuple #[.bool (igV a v), vI (vE a v : Int)] ∧ N = [] := by
 by_cases he : vE a v = 0
 ·obtain ⟨hv, h0, h1⟩ := vE_zero.1 he
  obtain ⟨n, rfl⟩ : ∃ n : Nat, v = n := ⟨v.toNat, by omega⟩
  rw [igV_ok he, he]
  exact ignOk w a k ha hv n h1 rfl
 ·rw [igV_bad he]
  exact ignBad w a k ha haa haar haaf v he
end Go.Proofs.YtohkmggbfcnapaaGreatDoor


namespace Go.Proofs.YtohkmggbfcnapaaGreatDoor
open Go.Lx Go.RowKit _root_.Go.Proofs.Tryz
theorem pow2C (w : World) [Tab Tryz.prog w] :
  PureT Tryz.prog 149 [vI 16] w fun v N => v = .bool true ∧ N = [] := by
 refine CallT.enter func149 rfl ntmps149 rfl ?_
 refine T.s (T.rg (TO.qa rfl (TO.nl (T.s (T.rg (TO.qm rfl (TO.qm rfl (TO.q (QT.cast (q_sub64 rfl rfl (by omega)) (v' := vI 15) rfl) (TO.q (q_and16 rfl rfl) (TO.q (QT.toB (q_eql rfl rfl) (b' := true) rfl) (TO.qa rfl (TO.nl (T.ret ?_)))))))))))))
 refine Res.one (.bool true) Tryz.results149 rfl ?_
 exact ⟨rfl, rfl⟩
theorem tz16 (w : World) [Tab Tryz.prog w] :
  PureT Tryz.prog 150 [.int .u64 16] w fun v N => v = vI 4 ∧ N = [] := by
 refine CallT.enter func150 rfl ntmps150 rfl ?_
 refine T.s (T.rg (TO.qa rfl (TO.nl (T.s (T.cond0 rfl (T.skip (T.s (T.rg (TO.qm rfl ?_)))))))))
 have hk7 := fun (w1 : World) (hI : Inv w [] w1) => (haveI := Inv.tab (P := Tryz.prog) hI; (show PureT _ _ _ _ _ from by
   have h9 := tzC w1 16 (by decide) (by decide)
   rw [show Lib.ctz 64 16 = 4 by decide] at h9
   exact h9))
 refine TO.l rfl (l_call ent112 (CallT.op hk7) rfl ?_)
 clear hk7
 rintro vr O' ⟨N, rfl, rfl, rfl⟩
 refine TO.qa rfl (TO.nl (T.ret ?_))
 refine Res.one (vI 4) Tryz.results150 rfl ?_
 exact ⟨rfl, rfl⟩
theorem fmtF (base : World) [Tab Tryz.prog base] (b : Option Addr) (c : Nat) (l : List Nat) (w0 : Nat) (hw : w0 < 18446744073709551616) (hl : l.length < 1000000) :
  CallT Tryz.prog base 130 [.slice b l.length c, .int .u64 ((w0 : Nat) : Int), vI 16, .bool false, .bool true] [rowI b c 5 1 (byts l)] (fun v O' => ∃ b2 c2, v = .tuple #[.slice b2 (l.length + (hexL w0).length) c2, .string ⟨#[]⟩] ∧ O' = [rowI b2 c2 5 1 (byts l ++ byts (hexL w0))]) := by
 refine CallT.enter func130 rfl ntmps130 rfl ?_
 refine T.s (T.rg (TO.qa rfl (TO.qa rfl (TO.nl (T.s (T.s (T.rg (TO.qm rfl (TO.q (QT.toB (q_lss rfl rfl) (decide_eq_false (by decide))) (TO.qm rfl (TO.gq rfl rfl (q_move rfl) (TO.gq rfl rfl (QT.toB (q_eql rfl rfl) (decide_eq_false (by decide))) (TO.q (q_pick0 rfl rfl) (TO.qm rfl (TO.gq rfl rfl (q_move rfl) ?_)))))))))))))))
 refine TO.gq rfl rfl (QT.toB (q_gtr rfl rfl) (decide_eq_false (by decide))) (TO.q (q_pick0 rfl rfl) (TO.nl (T.cond0 rfl (T.skip (T.s (T.rg (TO.l rfl (l_alloc inf180 rfl (fun z1 => ?_)))))))))
 refine TO.sub (O' := [oI z1 180 (List.replicate 65 (.int .u8 0)), rowI b c 5 1 (byts l)]) (by exact Sub.rf) ?_
 refine TO.nl (T.s (T.rg (TO.qa rfl (TO.nl (T.s (T.s (T.rg (TO.qm rfl (TO.nl (T.cond0 rfl (T.skip (T.s (T.s (T.rg (TO.qm rfl ?_)))))))))))))))
 have hk34 := fun (w1 : World) (hI : Inv base [oI z1 180 (List.replicate 65 (.int .u8 0)), rowI b c 5 1 (byts l)] w1) => (haveI := Inv.tab (P := Tryz.prog) hI; pow2C w1)
 refine TO.l rfl (l_call ent149 (CallT.op hk34) rfl ?_)
 clear hk34
 rintro vr O' ⟨N, rfl, rfl, rfl⟩
 refine TO.nl ?_
 refine T.cond1 rfl ?_
 refine T.s (T.rg (TO.qm rfl (TO.q (q_conv_id underlying3 underlying52 rfl rfl) ?_)))
 have hk37 := fun (w1 : World) (hI : Inv base [oI z1 180 (List.replicate 65 (.int .u8 0)), rowI b c 5 1 (byts l)] w1) => (haveI := Inv.tab (P := Tryz.prog) hI; tz16 w1)
 refine TO.l rfl (l_call ent150 (CallT.op hk37) rfl ?_)
 clear hk37
 rintro vr O' ⟨N, rfl, rfl, rfl⟩
 refine TO.q (q_conv_id underlying3 underlying52 rfl rfl) (TO.qa rfl (TO.nl (T.s (T.rg (TO.qm rfl (TO.q (q_conv_id underlying3 underlying107 rfl rfl) (TO.qa rfl (TO.nl (T.s (T.rg (TO.qm rfl (TO.q (q_conv_id underlying3 underlying52 rfl rfl) (TO.q (QT.cast (q_subU (a := 16) (b := 1) .u64 rfl rfl (by decide) (by decide)) (v' := .int .u64 15) rfl) (TO.qa rfl (TO.nl (T.s (T.block ?_)))))))))))))))))
 refine T.loop (fun (u : Nat) ρ O => ∃ (ds : List Nat) (cs : List Value), O = [objI z1 (.cells (List.toArray cs) 180 (0, 0)), rowI b c 5 1 (byts l)] ∧ HexI w0 u ds ∧ ArrI cs ds ∧ Heads [(0, (.slice b l.length c)), (1, .int .u64 ((u : Nat) : Int)), (2, vI 16), (3, .bool false), (4, .bool true), (10, nS), (11, .string ⟨#[]⟩), (12, (.pointer (aD z1))), (13, vI ((65 - ds.length : Nat) : Int)), (14, .int .u64 4), (15, .int .u64 16), (16, .int .u64 15)] ρ) (fun u => u) w0 ?_ ?_
 ·exact ⟨[], _, rfl, HexI.zero hw, ⟨by simp, fun q h => by cases h⟩, (.of rfl)⟩
 rintro u ρ O ⟨ds, cs, rfl, hE, hA, hH⟩
 obtain ⟨ρ0, rfl⟩ := hH.elim
 clear hH
 have hu64 := hE.le
 have hdl : ds.length ≤ 15 := by obtain ⟨f9, _, _, h3, h4⟩ := hE; omega
 refine T.s (T.s (T.rg (TO.qm rfl (TO.qm rfl (TO.q (QT.cast (q_geq rfl rfl) (v' := .bool (decide (16 ≤ u))) (congrArg Value.bool (decide_eq_decide.2 (by omega)))) (TO.nl (T.condP rfl (fun hc => ?_) (fun hc => ?_))))))))
 ·have hge : 16 ≤ u := hc
  obtain ⟨b9, hb9, hm9⟩ := digS (u % 16) (by omega)
  refine T.skip (T.block (T.s (T.rg (TO.qm rfl (TO.q (QT.cast (q_sub64 rfl rfl (by omega)) (v' := vI ((65 - ds.length - 1 : Nat) : Int)) (congrArg (Value.int .i64) (by omega))) (TO.qa rfl (TO.nl (T.s (T.rg (TO.qm rfl (TO.qm rfl (TO.qm rfl (TO.q (QT.cast (q_and (a := u) (b := 15) .u64 rfl rfl (by simp only [IntKind.bits]; omega) (by decide)) (v' := .int .u64 ((u % 16 : Nat) : Int)) (by rw [show (15 : Nat) = 2 ^ 4 - 1 by decide, Nat.and_two_pow_sub_one_eq_mod])) (TO.q (q_idxStr (bs := digB) (i := u % 16) underlying9 rfl rfl hb9 hm9) (TO.q (QT.cast (q_ixArr (i := 65 - ds.length - 1) underlying180 inf5 rfl rfl (by omega)) (v' := (.pointer (some ⟨z1, 65 - ds.length - 1, none⟩))) (by rw [Nat.zero_add, Nat.mul_one])) (TO.l rfl (l_sb (v := .int .u8 ((dgt (u % 16) : Nat) : Int)) (vs := [.int .u8 ((dgt (u % 16) : Nat) : Int)]) 0 inf5 rfl rfl rfl rfl rfl rfl (by have := hA.1; simp; omega) ?_)))))))))))))))))
  refine TO.nl (T.rg (TO.qm rfl (TO.qm rfl (TO.q (QT.cast (q_shr (a := u) (b := 4) .u64 rfl rfl (by simp only [IntKind.bits]; omega) (by decide)) (v' := .int .u64 ((u / 16 : Nat) : Int)) (by rw [Nat.shiftRight_eq_div_pow])) (TO.qa rfl (TO.nl ?_))))))
  obtain ⟨hE2, _⟩ := hE.step hge
  exact ⟨u / 16, by omega, _, _, rfl, hE2, hA.put hdl, ⟨rfl, rfl, rfl, rfl, rfl, rfl, rfl, rfl, (congrArg (fun n : Nat => Value.int .i64 (n : Int)) (by simp only [List.length_cons]; omega)), rfl, rfl, rfl, trivial⟩⟩
 have hlt16 : u < 16 := by have := hc; omega
 obtain ⟨b9, hb9, hm9⟩ := digS u hlt16
 obtain ⟨hx1, hx2⟩ := hE.done hlt16
 refine T.exit ?_
 refine T.s (T.rg (TO.qm rfl (TO.q (QT.cast (q_sub64 rfl rfl (by omega)) (v' := vI ((65 - ds.length - 1 : Nat) : Int)) (congrArg (Value.int .i64) (by omega))) (TO.qa rfl (TO.nl (T.rg (TO.qm rfl (TO.qm rfl (TO.q (q_idxStr (bs := digB) (i := u) underlying9 rfl rfl hb9 hm9) (TO.q (QT.cast (q_ixArr (i := 65 - ds.length - 1) underlying180 inf5 rfl rfl (by omega)) (v' := (.pointer (some ⟨z1, 65 - ds.length - 1, none⟩))) (by rw [Nat.zero_add, Nat.mul_one])) (TO.l rfl (l_sb (v := .int .u8 ((dgt u : Nat) : Int)) (vs := [.int .u8 ((dgt u : Nat) : Int)]) 0 inf5 rfl rfl rfl rfl rfl rfl (by have := hA.1; simp; omega) ?_))))))))))))
 refine TO.nl (T.s (T.s (T.rg (TO.qm rfl (TO.nl (T.cond0 rfl (T.skip (T.s (T.s (T.rg (TO.qm rfl (TO.nl ?_))))))))))))
 refine T.cond1 rfl ?_
 refine T.s (T.rg (TO.qm rfl (TO.qm rfl (TO.q (q_sliceAF (l := 65 - ds.length - 1) underlying180 inf5 rfl rfl (by omega)) (TO.l rfl (l_appendAF (new := byts (hexL w0)) (o := 65 - ds.length - 1) 0 1 underlying46 underlying46 inf5 rfl rfl rfl rfl (by simp) (by rw [hx1]; simp; omega) rfl (hA.fin hx2 hx1) (by simp [oneB]) (by omega) (by decide) (by decide) (fun b2 c2 => ?_)))))))
 refine TO.qa rfl (TO.nl (T.ret (Res.drop ?_)))
 refine Res.two (.slice b2 (l.length + (65 - (65 - ds.length - 1))) c2) (.string ⟨#[]⟩) Tryz.results130 rfl rfl ?_
 have hlen : (hexL w0).length = 65 - (65 - ds.length - 1) := by rw [hx1]; simp; omega
 exact ⟨[rowI b2 c2 5 1 (byts l ++ byts (hexL w0))], (by exact Sub.d (.k .z)), b2, c2, by rw [hlen], rfl⟩
theorem appF2 (base : World) [Tab Tryz.prog base] (b : Option Addr) (c : Nat) (l : List Nat) (w0 : Nat) (hw : w0 < 18446744073709551616) (hl : l.length < 1000000) :
  CallT Tryz.prog base 110 [.slice b l.length c, .int .u64 ((w0 : Nat) : Int), vI 16] [rowI b c 5 1 (byts l)] (fun v O' => ∃ b2 c2, v = .slice b2 (l.length + (hexL w0).length) c2 ∧ O' = [rowI b2 c2 5 1 (byts l ++ byts (hexL w0))]) := by
 refine CallT.enter func110 rfl ntmps110 rfl ?_
 refine T.s (T.rg (TO.qa rfl (TO.nl (T.s (T.s (T.rg (TO.qm rfl (TO.q (QT.toB (q_eql rfl rfl) (decide_eq_false (by decide))) (TO.nl (T.cond0 rfl (T.skip (T.s (T.rg (TO.qm rfl (TO.qm rfl (TO.qm rfl ?_))))))))))))))))
 have hk32 := fmtF base b c l w0 hw hl
 refine TO.l rfl (l_call ent130 hk32 rfl ?_)
 clear hk32
 rintro vr O' ⟨b2, c2, rfl, rfl⟩
 refine TO.qm rfl (TO.q (q_extract (vs := _) rfl rfl) (TO.q (q_extract (vs := _) rfl rfl) (TO.qa rfl (TO.nl (T.s (T.rg (TO.qm rfl (TO.qa rfl (TO.nl (T.ret ?_))))))))))
 refine Res.one (.slice b2 (l.length + (hexL w0).length) c2) Tryz.results110 rfl ?_
 exact ⟨_, _, rfl, rfl⟩
theorem appF3 (base : World) [Tab Tryz.prog base] (b : Option Addr) (c : Nat) (l : List Nat) (w0 : Nat) (hw : w0 < 18446744073709551616) (hl : l.length < 1000000) :
  CallT Tryz.prog base 85 [.slice b l.length c, .int .u64 ((w0 : Nat) : Int), vI 16] [rowI b c 5 1 (byts l)] (fun v O' => ∃ b2 c2, v = .slice b2 (l.length + (hexL w0).length) c2 ∧ O' = [rowI b2 c2 5 1 (byts l ++ byts (hexL w0))]) := by
 refine CallT.enter func85 rfl ntmps85 rfl ?_
 refine T.s (T.rg (TO.qa rfl (TO.nl (T.s (T.rg (TO.qm rfl (TO.qm rfl (TO.qm rfl ?_))))))))
 have hk10 := appF2 base b c l w0 hw hl
 refine TO.l rfl (l_call ent110 hk10 rfl ?_)
 clear hk10
 rintro vr O' ⟨b2, c2, rfl, rfl⟩
 refine TO.qa rfl (TO.nl (T.ret ?_))
 refine Res.one (.slice b2 (l.length + (hexL w0).length) c2) Tryz.results85 rfl ?_
 exact ⟨_, _, rfl, rfl⟩
theorem keyC (w : World) [Tab Tryz.prog w] (b : Option Addr) (m : Nat) (hb : Sl w b (uns [m])) (hw : m < 18446744073709551616) :
  PureT Tryz.prog 50 [.slice b 1 1] w fun v N => v = str (keyM m) ∧ N = [] := by
 refine CallT.enter func50 rfl ntmps50 rfl ?_
 have hhl : (hexL m).length ≤ 16 := hexF_len 16 m
 refine T.s (T.rg (TO.qa rfl (TO.nl (T.s (T.rg (TO.qa rfl (TO.nl (T.s (T.s (T.rg (TO.qm rfl (TO.q (QT.cast (q_len underlying67 rfl) (v' := vI 1) rfl) (TO.qm rfl (TO.nl (T.block ?_)))))))))))))))
 refine T.rounds 2 (T.round ?_)
 refine T.s (T.rg (TO.q (QT.toB (q_lss rfl rfl) (b' := true) rfl) (TO.nl (T.s ?_))))
 refine T.cond1 rfl ?_
 refine T.skip (T.s (T.block (T.s (T.rg (TO.q (q_ix (i := 0) underlying67 inf107 rfl rfl (Sl.o hb) (by decide) (by simp)) (TO.q (q_ld underlying107 rfl rfl (Sl.o hb) rfl) (TO.qa rfl (TO.nl (T.nilRow 5 1 ?_)))))))))
 refine T.rg (TO.qm rfl (TO.qm rfl ?_))
 have hk14 := appF3 w none 0 [] m hw (by decide)
 refine TO.l rfl (l_call ent85 hk14 rfl ?_)
 clear hk14
 rintro vr O' ⟨b2, c2, rfl, rfl⟩
 refine TO.l rfl (l_build1 (v := .int .u8 32) underlying46 inf5 rfl rfl rfl (fun bx1 => ?_))
 refine TO.l rfl (l_append 1 underlying46 underlying46 inf5 rfl rfl rfl rfl (by simp) (by decide) (Src.row (j := 0) rfl (by simp)) (by simp [oneB]) (by simp only [List.length_nil]; omega) (by decide) (by decide) (fun bx2 c3 => ?_))
 refine TO.qa rfl (TO.nl (T.rg (TO.q (QT.cast (q_add64 rfl rfl (by omega)) (v' := vI 1) rfl) (TO.qm rfl (TO.nl ?_)))))
 refine Rnd.reset [rowI (aD bx1) 1 5 1 [.int .u8 32], rowI bx2 c3 5 1 ((byts [] ++ byts (hexL m)) ++ [.int .u8 32])] [(0, (.slice b 1 1)), (2, .string ⟨#[]⟩), (3, (.slice bx2 ((0 + (hexL m).length) + 1) c3)), (5, .int .u64 ((m : Nat) : Int)), (6, (.slice b 1 1)), (7, vI 1), (8, vI 1)] rfl (.of rfl) (fun ρ0 => ?_)
 refine T.round ?_
 refine T.s (T.rg (TO.q (QT.toB (q_lss rfl rfl) (b' := false) rfl) (TO.nl (T.s (T.cond0 rfl ?_)))))
 refine T.exit ?_
 refine T.s ?_
 refine T.sub (O' := [rowI bx2 c3 5 1 (cells8 (keyM m))]) (by rw [← keyM_cells]; exact Sub.d (.k .z)) ?_
 refine T.rg (TO.qm rfl (TO.q (q_b2s (l := keyM m) underlying46 underlying9 underlying5 rfl (mG 0 rfl) (keyM_len m)) (TO.qa rfl (TO.nl (T.ret (Res.drop ?_))))))
 refine Res.one (str (keyM m)) Tryz.results50 rfl ?_
 exact ⟨[], Sub.z, rfl, rfl⟩
end Go.Proofs.YtohkmggbfcnapaaGreatDoor

