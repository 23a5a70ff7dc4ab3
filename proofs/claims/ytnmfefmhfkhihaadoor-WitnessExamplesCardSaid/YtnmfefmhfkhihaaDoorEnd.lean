/- Contracts of functions of the program (WtE, WA, Ref7, Len, R12, W8, Close, End): what each call answers and that it leaves memory as it was. Conditions: those each theorem names. -/
import Derived.Test.YtnmfefmhfkhihaaDoorOver
import Derived.Test.YtnmfefmhfkhihaaDoorKit
import Derived.Test.YtnmfefmhfkhihaaDoorCoreV
import Derived.Test.YtnmfefmhfkhihaaDoorW2
import Derived.OpenShut
import Derived.Deep.DeepHandedRow
import Derived.Deep.Matrix
import Derived.Deep.Grids
import Derived.WideKeyArgs
import Derived.SizedLaws
import Derived.Test.YtnmfefmhfkhihaaDoorCards
import Derived.Test.YtnmfefmhfkhihaaDoorTie
import Derived.WalkKit
import Derived.ProofKit
import Derived.Lib.LaidTab
set_option linter.unusedSectionVars false
set_option linter.unusedSimpArgs false
set_option linter.unusedVariables false
set_option linter.unnecessarySimpa false
namespace Go.Lx
set_option linter.unusedVariables false
set_option maxRecDepth 20000
def ex2 : DFA := ⟨1, 0, [[0, 1], [2, 3], [0, 1], [2, 3]], [false, false, true, true]⟩
def exX : DFA := ⟨2, 0, [[2, 1, 1, 2], [2, 2, 2, 2], [2, 2, 2, 2]], [false, true, false]⟩
theorem ex2_ok : checkD ex2 = 0 := by decide
theorem exX_ok : checkD exX = 0 := by decide
theorem ex2_valid : Valid ex2 := checkD_zero.1 ex2_ok
theorem exX_valid : Valid exX := checkD_zero.1 exX_ok
theorem bd_ex2 : Bd9 ex2 := ⟨by decide, ex2_valid.bound, by decide⟩
theorem bd_exX : Bd9 exX := ⟨by decide, exX_valid.bound, by decide⟩
theorem ex2_least' : LeastA ex2 (some [1, 0]) := by
  refine ⟨by intro x hx; simp at hx; rcases hx with rfl | rfl <;> decide, by decide, fun u hu ha => ?_⟩
  match u, hu, ha with
  | [], _, ha => revert ha; decide
  | [x], hu, ha =>
    have hx : x < 2 := hu x (by simp)
    have : x = 0 ∨ x = 1 := by omega
    rcases this with rfl | rfl <;> revert ha <;> decide
  | [x, y], hu, ha =>
    have hx : x < 2 := hu x (by simp)
    have hy : y < 2 := hu y (by simp)
    have h1 : x = 0 ∨ x = 1 := by omega
    have h2 : y = 0 ∨ y = 1 := by omega
    rcases h1 with rfl | rfl <;> rcases h2 with rfl | rfl <;> revert ha <;> decide
  | x :: y :: z :: u, hu, ha =>
    exact Nat.le_of_lt (code_lt_len (v := [1, 0]) (by decide) (Wd.lt64 ex2_valid.toVal hu) (by simp))
theorem ex2_least {r : Option (List Nat)} (h : LeastA ex2 r) : r = some [1, 0] := h.unique ex2_valid ex2_least'
theorem allW_take {d : DFA} {n m : Nat} (hn : n ≤ 65) (h : m ≤ (allW d n).length) : (allW d 65).take m = (allW d n).take m := by
  obtain ⟨r, hr⟩ := allW_pre d hn
  rw [hr, take_pre h]
theorem allW_get {d : DFA} {n k : Nat} (hn : n ≤ 65) (h : k < (allW d n).length) : (allW d 65)[k]? = (allW d n)[k]? := by
  obtain ⟨r, hr⟩ := allW_pre d hn
  rw [hr, List.getElem?_append_left h]
theorem ex2_four : allW ex2 4 = [[1, 0], [1, 1], [0, 1, 0], [0, 1, 1], [1, 1, 0], [1, 1, 1]] := by decide
theorem ex2_cnt : cntV ex2 2 = 2 := by decide
theorem ex2_cntE : cntE ex2 2 = 0 := by decide
theorem ex2_wdsE : wdsE ex2 3 = 0 := by decide
theorem ex2_wds : wdsV ex2 3 = [[1, 0], [1, 1], [0, 1, 0]] := by
  unfold wdsV
  rw [if_pos ex2_wdsE, show (3 : Int).toNat = 3 from rfl, allW_take (n := 4) (by decide) (by rw [ex2_four]; decide), ex2_four]; rfl
theorem ex2_nth : nthV ex2 2 = some [0, 1, 0] := by
  rw [nthV_small ex2_ok (by decide), allW_get (n := 4) (by decide) (by rw [ex2_four]; decide), ex2_four]; rfl
theorem ex2_nthE : nthE ex2 2 = 0 := nthE_small ex2_ok (by decide)
theorem ex2_inf : InfC ex2 ex2.start.toNat := ⟨[1, 0], 2, by intro x hx; simp at hx; rcases hx with rfl | rfl <;> decide, by decide, ⟨[], Wd.nil, by decide⟩, [1, 0], by decide, by intro x hx; simp at hx; rcases hx with rfl | rfl <;> decide, by decide⟩
theorem exX_two : ∀ u, Wd exX u → runN exX 2 u = 2
  | [], _ => rfl
  | x :: u, h => by
    have h' := Wd.cons.1 h
    have hx : x < 4 := h'.1
    rw [runN_cons]
    have : toN exX 2 x = 2 := by
      have : x = 0 ∨ x = 1 ∨ x = 2 ∨ x = 3 := by omega
      rcases this with rfl | rfl | rfl | rfl <;> decide
    rw [this]; exact exX_two u h'.2
theorem exX_words {u : List Nat} (h : Wd exX u) (ha : acc exX u = true) : u.length < 2 := by
  match u, h, ha with
  | [], _, _ => decide
  | [x], _, _ => simp
  | x :: y :: u, h, ha =>
    have h1 := Wd.cons.1 h
    have h2 := Wd.cons.1 h1.2
    have hx : x < 4 := h1.1
    have hy : y < 4 := h2.1
    have e : toN exX (toN exX 0 x) y = 2 := by
      have q1 : x = 0 ∨ x = 1 ∨ x = 2 ∨ x = 3 := by omega
      have q2 : y = 0 ∨ y = 1 ∨ y = 2 ∨ y = 3 := by omega
      rcases q1 with rfl | rfl | rfl | rfl <;> rcases q2 with rfl | rfl | rfl | rfl <;> decide
    have hr : runN exX exX.start.toNat (x :: y :: u) = 2 := by
      show runN exX (toN exX (toN exX 0 x) y) u = 2
      rw [e]; exact exX_two u h2.2
    rw [acc, hr] at ha
    exact absurd ha (by decide)
theorem exX_fin : ¬ InfC exX exX.start.toNat := by
  rw [inf_iff exX_valid.toVal (by decide)]
  rintro ⟨z, h1, h2, h3, _⟩
  have := exX_words h1 h2
  have h4 : 3 ≤ z.length := h3
  omega
theorem exX_all : ∀ n, 2 ≤ n → allW exX n = [[1], [2]]
  | 0, h => by omega
  | 1, h => by omega
  | 2, _ => by decide
  | n + 3, _ => by
    rw [allW_snoc, exX_all (n + 2) (by omega)]
    have : wsN exX (n + 2) exX.start.toNat = [] := by
      cases h : wsN exX (n + 2) exX.start.toNat with
      | nil => rfl
      | cons u l =>
        have hu : u ∈ wsN exX (n + 2) exX.start.toNat := by rw [h]; simp
        obtain ⟨h1, h2, h3⟩ := mem_wsN.1 hu
        have := exX_words h2 h3
        omega
    rw [this]; rfl
theorem exX_nth : nthV exX 2 = none := by
  rw [nthV_small exX_ok (by decide), exX_all 65 (by decide)]; rfl
theorem exX_nthE : nthE exX 2 = 0 := nthE_small exX_ok (by decide)
structure Sm (d : DFA) : Prop where
  n12 : d.next.length ≤ 12
  r100 : ∀ r ∈ d.next, r.length ≤ 100
  f40 : d.final.length ≤ 40
theorem Sm.of {d : DFA} (h : ¬ longD d = true) (hn : d.next.length ≤ 12) : Sm d := ⟨hn, (longD_false h).2.2, (longD_false h).2.1⟩
end Go.Lx


namespace Go.Proofs.YtnmfefmhfkhihaaDoor
open Go.Lx Go.RowKit
set_option linter.unusedVariables false
set_option linter.unusedSimpArgs false
set_option maxHeartbeats 1000000 in
set_option maxRecDepth 20000 in
theorem equalWords (w : World) [Tab Tryd.prog w] (b1 b2 : Option Addr) (c1 c2 : Nat) (us vs : List WRec) (h1 : Sl w b1 (wvals us)) (h1q : ∀ q ∈ us, Sl w q.b (byts q.xs)) (h1l : us.length < 9223372036854775807) (h2 : Sl w b2 (wvals vs)) (h2q : ∀ q ∈ vs, Sl w q.b (byts q.xs)) (h2l : vs.length < 9223372036854775807) (hul : ∀ q ∈ us, q.xs.length < 9223372036854775807) :
    PureT Tryd.prog 17 [.slice b1 us.length c1, .slice b2 vs.length c2] w fun v N => v = .bool (decide (wnums us = wnums vs)) ∧ N = [] := by
  refine CallT.enter Tryd.func17 rfl Tryd.ntmps17 rfl ?_
  refine T.seq (T.region ?_)
  refine TO.quiet (q_assign rfl) ?_
  refine TO.nil (T.seq (T.seq (T.region ?_)))
  refine TO.quiet (q_move rfl) (TO.quiet (q_len Tryd.underlying33 rfl) (TO.quiet (q_move rfl) (TO.quiet (q_len Tryd.underlying33 rfl) ?_)))
  refine TO.quiet (q_neq rfl rfl) ?_
  refine TO.nil ?_
  refine T.condP rfl (fun hc => ?_) (fun hc => ?_)
  · have hlt10 : us.length ≠ vs.length := by omega
    have hne : us.length ≠ vs.length := by omega
    refine T.seq (T.region ?_)
    refine TO.quiet (q_assign rfl) ?_
    refine TO.nil (T.ret (Res.drop ?_))
    refine Res.one (.bool false) Tryd.results17 rfl ?_
    exact ⟨[], Sub.z, congrArg Value.bool (Eq.symm (decide_eq_false (fun h9 => hne (by have := congrArg List.length h9; simpa using this)))), rfl⟩
  have hge10 : ¬ us.length ≠ vs.length := by omega
  have hle : us.length = vs.length := by omega
  refine T.skip (T.seq (T.seq (T.region ?_)))
  refine TO.quiet (q_assign rfl) ?_
  refine TO.nil (T.block ?_)
  refine T.loop (fun (i : Nat) ρ O => O = [] ∧ i ≤ us.length ∧ (wnums us).take i = (wnums vs).take i ∧ Heads [(0, (.slice b1 us.length c1)), (1, (.slice b2 vs.length c2)), (5, .int .i64 ((i : Nat) : Int))] ρ) (fun i => us.length - i) 0 ?_ ?_
  · exact ⟨rfl, Nat.zero_le _, rfl, ⟨rfl, rfl, rfl, trivial⟩⟩
  rintro i ρ O ⟨rfl, hi, he, hH⟩
  obtain ⟨ρ0, rfl⟩ := hH.elim
  clear hH
  refine T.seq (T.seq (T.region ?_))
  refine TO.quiet (q_move rfl) (TO.quiet (q_move rfl) (TO.quiet (q_len Tryd.underlying33 rfl) (TO.quiet (q_lss rfl rfl) ?_)))
  refine TO.nil ?_
  refine T.condP rfl (fun hc => ?_) (fun hc => ?_)
  · have hlt14 : i < us.length := by omega
    have hlv : i < vs.length := by omega
    refine T.skip (T.seq (T.block (T.seq ?_)))
    refine T.draws _ [(0, 0), (1, 0), (2, 0), (3, 0), (4, 0), (5, 0), (6, 0), (7, 0), (8, 2), (9, 2)] mixed (by kernel_rfl) (Sub.of (List.Sublist.refl _)) (fun _ _ _ h => h) ?_
    refine DO.quiet rfl (q_move rfl) (DO.quiet rfl (q_move rfl) (DO.quiet rfl (q_ix (i := i) Tryd.underlying33 inf29 rfl rfl (Sl.o h1) hlt14 (by rw [List.length_map]; exact hlt14)) (DO.quiet rfl (q_ld Tryd.underlying29 rfl rfl (Sl.o h1) (wvals_gt hlt14)) ?_)))
    refine DO.quiet rfl (q_move rfl) (DO.quiet rfl (q_move rfl) (DO.quiet rfl (q_ix (i := i) Tryd.underlying33 inf29 rfl rfl (Sl.o h2) hlv (by rw [List.length_map]; exact hlv)) (DO.quiet rfl (q_ld Tryd.underlying29 rfl rfl (Sl.o h2) (wvals_gt hlv)) ?_)))
    have hk25 := fun (w1 : World) (hI : Inv w [] w1) => (haveI := Inv.tab (P := Tryd.prog) hI; equalBytes w1 us[i].b vs[i].b us[i].c vs[i].c us[i].xs vs[i].xs (hI.sl (h1q _ (List.getElem_mem hlt14))) (hI.sl (h2q _ (List.getElem_mem hlv))) (hul _ (List.getElem_mem hlt14)))
    refine DO.last rfl rfl (l_call ent16 (CallT.of_pure hk25) rfl ?_)
    clear hk25
    rintro vr O' ⟨N, rfl, rfl, rfl⟩
    refine DO.last rfl rfl (LT.of_quiet rfl rfl (QT.cast (q_not rfl) (v' := .bool (decide (us[i].xs ≠ vs[i].xs))) (by simp)) ?_)
    refine DO.done ?_
    refine T.condP rfl (fun hc => ?_) (fun hc => ?_)
    · have hxx : us[i].xs ≠ vs[i].xs := hc
      refine T.seq (T.region ?_)
      refine TO.quiet (q_assign rfl) ?_
      refine TO.nil (T.ret (Res.drop ?_))
      refine Res.one (.bool false) Tryd.results17 rfl ?_
      exact ⟨[], Sub.z, congrArg Value.bool (Eq.symm (decide_eq_false (fun h9 => hxx (by
        have h8 := congrArg (·[i]?) h9
        simp only [List.getElem?_map, List.getElem?_eq_getElem hlt14, List.getElem?_eq_getElem hlv, Option.map_some] at h8
        exact Option.some.inj h8)))), rfl⟩
    have heq : us[i].xs = vs[i].xs := Classical.not_not.1 hc
    refine T.skip (T.region ?_)
    refine TO.quiet (q_move rfl) (TO.quiet (q_addN (a := i) (b := 1) rfl rfl (by omega)) (TO.quiet (q_assign rfl) ?_))
    refine TO.nil ?_
    exact ⟨i + 1, by omega, rfl, by omega, by rw [List.take_succ_eq_append_getElem (show i < (wnums us).length by rw [List.length_map]; omega), List.take_succ_eq_append_getElem (show i < (wnums vs).length by rw [List.length_map]; omega), he, List.getElem_map, List.getElem_map, heq], ⟨rfl, rfl, rfl, trivial⟩⟩
  have hge14 : ¬ i < us.length := by omega
  refine T.exit ?_
  refine T.seq (T.region ?_)
  refine TO.quiet (q_assign rfl) ?_
  refine TO.nil (T.ret (Res.drop ?_))
  refine Res.one (.bool true) Tryd.results17 rfl ?_
  exact ⟨[], Sub.z, congrArg Value.bool (Eq.symm (decide_eq_true (by rw [List.take_of_length_le (by rw [List.length_map]; omega), List.take_of_length_le (by rw [List.length_map]; omega)] at he; exact he))), rfl⟩
set_option maxHeartbeats 1000000 in
set_option maxRecDepth 20000 in
theorem secondK (w : World) [Tab Tryd.prog w] : PureT Tryd.prog 23 [] w fun v N => ∃ k' : DK, v = dV ex2 k' ∧ N = [dI 41 4 3 ex2 k'] := by
  refine CallT.enter Tryd.func23 rfl Tryd.ntmps23 rfl ?_
  refine T.seq (T.region ?_)
  refine TO.loud rfl (l_alloc inf25 rfl (fun z1 => ?_))
  refine TO.nil (T.seq (T.region ?_))
  refine TO.loud rfl (l_buildSlice (m := 2) (parts := [(0, .const (.int .i64 0)), (1, .const (.int .i64 1))]) (cs := [.int .i64 0, .int .i64 1]) Tryd.underlying41 inf3 (by decide) (by kernel_rfl) rfl (fun z2 => ?_))
  refine TO.loud rfl (l_buildSlice (m := 2) (parts := [(0, .const (.int .i64 2)), (1, .const (.int .i64 3))]) (cs := [.int .i64 2, .int .i64 3]) Tryd.underlying41 inf3 (by decide) (by kernel_rfl) rfl (fun z3 => ?_))
  refine TO.loud rfl (l_buildSlice (m := 2) (parts := [(0, .const (.int .i64 0)), (1, .const (.int .i64 1))]) (cs := [.int .i64 0, .int .i64 1]) Tryd.underlying41 inf3 (by decide) (by kernel_rfl) rfl (fun z4 => ?_))
  refine TO.loud rfl (l_buildSlice (m := 2) (parts := [(0, .const (.int .i64 2)), (1, .const (.int .i64 3))]) (cs := [.int .i64 2, .int .i64 3]) Tryd.underlying41 inf3 (by decide) (by kernel_rfl) rfl (fun z5 => ?_))
  refine TO.loud rfl (l_buildSlice (m := 4) (parts := [(0, .tmp 1), (1, .tmp 2), (2, .tmp 3), (3, .tmp 4)]) (cs := [(.slice (some ⟨z2, 0, none⟩) 2 2), (.slice (some ⟨z3, 0, none⟩) 2 2), (.slice (some ⟨z4, 0, none⟩) 2 2), (.slice (some ⟨z5, 0, none⟩) 2 2)]) Tryd.underlying22 inf41 (by decide) (by kernel_rfl) rfl (fun z6 => ?_))
  refine TO.loud rfl (l_buildSlice (m := 4) (parts := [(0, .const (.bool false)), (1, .const (.bool false)), (2, .const (.bool true)), (3, .const (.bool true))]) (cs := [.bool false, .bool false, .bool true, .bool true]) Tryd.underlying23 inf4 (by decide) (by kernel_rfl) rfl (fun z7 => ?_))
  refine TO.quiet (q_build (cs := [.int .i64 1, (.int .i64 0), (.slice (some ⟨z6, 0, none⟩) 4 4), (.slice (some ⟨z7, 0, none⟩) 4 4)]) plan25 inf25 (by kernel_rfl)) ?_
  refine TO.loud rfl (l_store_box (v := (.agg #[.int .i64 1, (.int .i64 0), (.slice (some ⟨z6, 0, none⟩) 4 4), (.slice (some ⟨z7, 0, none⟩) 4 4)])) (vs := [.int .i64 1, (.int .i64 0), (.slice (some ⟨z6, 0, none⟩) 4 4), (.slice (some ⟨z7, 0, none⟩) 4 4)]) 6 inf25 rfl rfl rfl rfl rfl rfl (by simp [putL]) ?_)
  refine TO.nil ?_
  refine T.sub (O' := [rowI (some ⟨z6, 0, none⟩) 4 41 1 [(.slice (some ⟨z2, 0, none⟩) 2 2), (.slice (some ⟨z3, 0, none⟩) 2 2), (.slice (some ⟨z4, 0, none⟩) 2 2), (.slice (some ⟨z5, 0, none⟩) 2 2)], rowI (some ⟨z7, 0, none⟩) 4 4 1 [.bool false, .bool false, .bool true, .bool true], rowI (some ⟨z2, 0, none⟩) 2 3 1 [.int .i64 0, .int .i64 1], rowI (some ⟨z3, 0, none⟩) 2 3 1 [.int .i64 2, .int .i64 3], rowI (some ⟨z4, 0, none⟩) 2 3 1 [.int .i64 0, .int .i64 1], rowI (some ⟨z5, 0, none⟩) 2 3 1 [.int .i64 2, .int .i64 3], oI z1 25 [.int .i64 1, (.int .i64 0), (.slice (some ⟨z6, 0, none⟩) 4 4), (.slice (some ⟨z7, 0, none⟩) 4 4)]]) (by exact Sub.pull [rowI (some ⟨z7, 0, none⟩) 4 4 1 [.bool false, .bool false, .bool true, .bool true]] _ (.k (.pull [rowI (some ⟨z5, 0, none⟩) 2 3 1 [.int .i64 2, .int .i64 3], rowI (some ⟨z4, 0, none⟩) 2 3 1 [.int .i64 0, .int .i64 1], rowI (some ⟨z3, 0, none⟩) 2 3 1 [.int .i64 2, .int .i64 3]] _ (.pull [rowI (some ⟨z5, 0, none⟩) 2 3 1 [.int .i64 2, .int .i64 3], rowI (some ⟨z4, 0, none⟩) 2 3 1 [.int .i64 0, .int .i64 1]] _ (.pull [rowI (some ⟨z5, 0, none⟩) 2 3 1 [.int .i64 2, .int .i64 3]] _ (.k (.k .z))))))) ?_
  obtain ⟨k0, hk0⟩ : ∃ k : DK, k = ⟨some ⟨z6, 0, none⟩, 4, some ⟨z7, 0, none⟩, 4, [⟨some ⟨z2, 0, none⟩, 2, [0, 1]⟩, ⟨some ⟨z3, 0, none⟩, 2, [2, 3]⟩, ⟨some ⟨z4, 0, none⟩, 2, [0, 1]⟩, ⟨some ⟨z5, 0, none⟩, 2, [2, 3]⟩]⟩ := ⟨_, rfl⟩
  refine T.sub (O' := (([rowI k0.nb k0.nc 41 1 (vals k0.qs), rowI k0.fb k0.fc 4 1 (bools ex2.final)] ++ itms 3 k0.qs) ++ [oI z1 25 [.int .i64 1, (.int .i64 0), (.slice (some ⟨z6, 0, none⟩) 4 4), (.slice (some ⟨z7, 0, none⟩) 4 4)]])) (by subst hk0; exact Sub.rf) ?_
  refine T.pack (φ := nums k0.qs = ex2.next) (by subst hk0; rfl) ?_
  refine T.sub (O' := [dI 41 4 3 ex2 k0, oI z1 25 (dC ex2 k0)]) (by subst hk0; exact Sub.rf) ?_
  refine T.ret (Res.drop ?_)
  refine Res.cell1 (i := 1) Tryd.results23 Tryd.underlying25 rfl inf25 rfl rfl rfl ?_
  exact ⟨[dI 41 4 3 ex2 k0], (by exact Sub.k .z), k0, rfl, rfl⟩
set_option maxHeartbeats 1000000 in
set_option maxRecDepth 20000 in
theorem exactlyK (w : World) [Tab Tryd.prog w] : PureT Tryd.prog 40 [] w fun v N => ∃ k' : DK, v = dV exX k' ∧ N = [dI 41 4 3 exX k'] := by
  refine CallT.enter Tryd.func40 rfl Tryd.ntmps40 rfl ?_
  refine T.seq (T.region ?_)
  refine TO.loud rfl (l_alloc inf25 rfl (fun z1 => ?_))
  refine TO.nil (T.seq (T.region ?_))
  refine TO.loud rfl (l_buildSlice (m := 4) (parts := [(0, .const (.int .i64 2)), (1, .const (.int .i64 1)), (2, .const (.int .i64 1)), (3, .const (.int .i64 2))]) (cs := [.int .i64 2, .int .i64 1, .int .i64 1, .int .i64 2]) Tryd.underlying41 inf3 (by decide) (by kernel_rfl) rfl (fun z2 => ?_))
  refine TO.loud rfl (l_buildSlice (m := 4) (parts := [(0, .const (.int .i64 2)), (1, .const (.int .i64 2)), (2, .const (.int .i64 2)), (3, .const (.int .i64 2))]) (cs := [.int .i64 2, .int .i64 2, .int .i64 2, .int .i64 2]) Tryd.underlying41 inf3 (by decide) (by kernel_rfl) rfl (fun z3 => ?_))
  refine TO.loud rfl (l_buildSlice (m := 4) (parts := [(0, .const (.int .i64 2)), (1, .const (.int .i64 2)), (2, .const (.int .i64 2)), (3, .const (.int .i64 2))]) (cs := [.int .i64 2, .int .i64 2, .int .i64 2, .int .i64 2]) Tryd.underlying41 inf3 (by decide) (by kernel_rfl) rfl (fun z4 => ?_))
  refine TO.loud rfl (l_buildSlice (m := 3) (parts := [(0, .tmp 1), (1, .tmp 2), (2, .tmp 3)]) (cs := [(.slice (some ⟨z2, 0, none⟩) 4 4), (.slice (some ⟨z3, 0, none⟩) 4 4), (.slice (some ⟨z4, 0, none⟩) 4 4)]) Tryd.underlying22 inf41 (by decide) (by kernel_rfl) rfl (fun z5 => ?_))
  refine TO.loud rfl (l_buildSlice (m := 3) (parts := [(0, .const (.bool false)), (1, .const (.bool true)), (2, .const (.bool false))]) (cs := [.bool false, .bool true, .bool false]) Tryd.underlying23 inf4 (by decide) (by kernel_rfl) rfl (fun z6 => ?_))
  refine TO.quiet (q_build (cs := [.int .i64 2, (.int .i64 0), (.slice (some ⟨z5, 0, none⟩) 3 3), (.slice (some ⟨z6, 0, none⟩) 3 3)]) plan25 inf25 (by kernel_rfl)) ?_
  refine TO.loud rfl (l_store_box (v := (.agg #[.int .i64 2, (.int .i64 0), (.slice (some ⟨z5, 0, none⟩) 3 3), (.slice (some ⟨z6, 0, none⟩) 3 3)])) (vs := [.int .i64 2, (.int .i64 0), (.slice (some ⟨z5, 0, none⟩) 3 3), (.slice (some ⟨z6, 0, none⟩) 3 3)]) 5 inf25 rfl rfl rfl rfl rfl rfl (by simp [putL]) ?_)
  refine TO.nil ?_
  refine T.sub (O' := [rowI (some ⟨z5, 0, none⟩) 3 41 1 [(.slice (some ⟨z2, 0, none⟩) 4 4), (.slice (some ⟨z3, 0, none⟩) 4 4), (.slice (some ⟨z4, 0, none⟩) 4 4)], rowI (some ⟨z6, 0, none⟩) 3 4 1 [.bool false, .bool true, .bool false], rowI (some ⟨z2, 0, none⟩) 4 3 1 [.int .i64 2, .int .i64 1, .int .i64 1, .int .i64 2], rowI (some ⟨z3, 0, none⟩) 4 3 1 [.int .i64 2, .int .i64 2, .int .i64 2, .int .i64 2], rowI (some ⟨z4, 0, none⟩) 4 3 1 [.int .i64 2, .int .i64 2, .int .i64 2, .int .i64 2], oI z1 25 [.int .i64 2, (.int .i64 0), (.slice (some ⟨z5, 0, none⟩) 3 3), (.slice (some ⟨z6, 0, none⟩) 3 3)]]) (by exact Sub.pull [rowI (some ⟨z6, 0, none⟩) 3 4 1 [.bool false, .bool true, .bool false]] _ (.k (.pull [rowI (some ⟨z4, 0, none⟩) 4 3 1 [.int .i64 2, .int .i64 2, .int .i64 2, .int .i64 2], rowI (some ⟨z3, 0, none⟩) 4 3 1 [.int .i64 2, .int .i64 2, .int .i64 2, .int .i64 2]] _ (.pull [rowI (some ⟨z4, 0, none⟩) 4 3 1 [.int .i64 2, .int .i64 2, .int .i64 2, .int .i64 2]] _ (.k (.k .z)))))) ?_
  obtain ⟨k0, hk0⟩ : ∃ k : DK, k = ⟨some ⟨z5, 0, none⟩, 3, some ⟨z6, 0, none⟩, 3, [⟨some ⟨z2, 0, none⟩, 4, [2, 1, 1, 2]⟩, ⟨some ⟨z3, 0, none⟩, 4, [2, 2, 2, 2]⟩, ⟨some ⟨z4, 0, none⟩, 4, [2, 2, 2, 2]⟩]⟩ := ⟨_, rfl⟩
  refine T.sub (O' := (([rowI k0.nb k0.nc 41 1 (vals k0.qs), rowI k0.fb k0.fc 4 1 (bools exX.final)] ++ itms 3 k0.qs) ++ [oI z1 25 [.int .i64 2, (.int .i64 0), (.slice (some ⟨z5, 0, none⟩) 3 3), (.slice (some ⟨z6, 0, none⟩) 3 3)]])) (by subst hk0; exact Sub.rf) ?_
  refine T.pack (φ := nums k0.qs = exX.next) (by subst hk0; rfl) ?_
  refine T.sub (O' := [dI 41 4 3 exX k0, oI z1 25 (dC exX k0)]) (by subst hk0; exact Sub.rf) ?_
  refine T.ret (Res.drop ?_)
  refine Res.cell1 (i := 1) Tryd.results40 Tryd.underlying25 rfl inf25 rfl rfl rfl ?_
  exact ⟨[dI 41 4 3 exX k0], (by exact Sub.k .z), k0, rfl, rfl⟩
theorem sho2 (w : World) [Tab Tryd.prog w] (k : DK) (ha : At w ex2 k) :
    PureT Tryd.prog 20 [dV ex2 k] w fun v N => ∃ wb wc, v = .tuple #[.slice wb 2 wc, .bool true, .int .i64 0] ∧ N = [rowI wb wc 5 1 (byts [1, 0])] := by
  refine (shoC w ex2 k ha bd_ex2.1 bd_ex2.2.1 bd_ex2.2.2).mono ?_
  rintro v N ⟨res, wb, wc, h1, _, h3, h4⟩
  obtain rfl := ex2_least (h1 ex2_ok)
  rw [ex2_ok] at h3
  exact ⟨wb, wc, h3, h4⟩
theorem cnt2 (w : World) [Tab Tryd.prog w] (k : DK) (ha : At w ex2 k) :
    PureT Tryd.prog 22 [dV ex2 k, .int .i64 2] w fun v N => v = .tuple #[.int .u64 2, .int .i64 0] ∧ N = [] := by
  have h := countC w ex2 k ha bd_ex2.1 bd_ex2.2.1 bd_ex2.2.2 2
  rw [ex2_cnt, ex2_cntE] at h
  exact h
theorem wds2 (w : World) [Tab Tryd.prog w] (k : DK) (ha : At w ex2 k) :
    PureT Tryd.prog 15 [dV ex2 k, .int .i64 3] w fun v N => ∃ ws lb lc, wnums ws = [[1, 0], [1, 1], [0, 1, 0]] ∧ v = .tuple #[.slice lb ws.length lc, .int .i64 0] ∧ N = [wlI 29 5 lb lc ws] := by
  have h := wdsC w ex2 k ha bd_ex2.1 bd_ex2.2.1 bd_ex2.2.2 3
  rw [ex2_wds, ex2_wdsE] at h
  exact h
theorem fin2 (w : World) [Tab Tryd.prog w] (k : DK) (ha : At w ex2 k) :
    PureT Tryd.prog 21 [dV ex2 k] w fun v N => v = .tuple #[.bool false, .int .i64 0] ∧ N = [] := by
  refine (finC w ex2 k ha bd_ex2.1 bd_ex2.2.1 bd_ex2.2.2).mono ?_
  rintro v N ⟨b, h1, h2, h3, _⟩
  rw [ex2_ok] at h1
  cases b with
  | false => exact ⟨h1, h2⟩
  | true => exact absurd ex2_inf ((h3 ex2_ok).1 rfl)
theorem finX (w : World) [Tab Tryd.prog w] (k : DK) (ha : At w exX k) :
    PureT Tryd.prog 21 [dV exX k] w fun v N => v = .tuple #[.bool true, .int .i64 0] ∧ N = [] := by
  refine (finC w exX k ha bd_exX.1 bd_exX.2.1 bd_exX.2.2).mono ?_
  rintro v N ⟨b, h1, h2, h3, _⟩
  rw [exX_ok] at h1
  cases b with
  | true => exact ⟨h1, h2⟩
  | false => exact absurd ((h3 exX_ok).2 exX_fin) (by decide)
theorem nthX (w : World) [Tab Tryd.prog w] (k : DK) (ha : At w exX k) :
    PureT Tryd.prog 14 [dV exX k, .int .u64 2] w fun v N => ∃ wb wc, v = .tuple #[.slice wb 0 wc, .bool false, .int .i64 0] ∧ N = [rowI wb wc 5 1 (byts [])] := by
  have h := nthC w exX k ha bd_exX.1 bd_exX.2.1 bd_exX.2.2 2
  rw [exX_nth, exX_nthE] at h
  exact h
theorem nth2 (w : World) [Tab Tryd.prog w] (k : DK) (ha : At w ex2 k) :
    PureT Tryd.prog 14 [dV ex2 k, .int .u64 2] w fun v N => ∃ wb wc, v = .tuple #[.slice wb 3 wc, .bool true, .int .i64 0] ∧ N = [rowI wb wc 5 1 (byts [0, 1, 0])] := by
  have h := nthC w ex2 k ha bd_ex2.1 bd_ex2.2.1 bd_ex2.2.2 2
  rw [ex2_nth, ex2_nthE] at h
  exact h
set_option maxHeartbeats 8000000 in
set_option maxRecDepth 20000 in
theorem awakeC (w : World) [Tab Tryd.prog w] : PureT Tryd.prog 11 [] w fun v N => v = .bool true ∧ N = [] := by
  refine CallT.enter Tryd.func11 rfl Tryd.ntmps11 rfl ?_
  refine T.seq (T.region ?_)
  refine TO.quiet (q_assign rfl) ?_
  refine TO.nil (T.seq (T.region ?_))
  have hk19 := fun (w1 : World) (hI : Inv w [] w1) => (haveI := Inv.tab (P := Tryd.prog) hI; secondK w1)
  refine TO.loud rfl (l_call ent23 (CallT.of_pure hk19) rfl ?_)
  clear hk19
  rintro vr O' ⟨N, rfl, k1, rfl, rfl⟩
  have hk20 := fun (w1 : World) (hI : Inv w [dI 41 4 3 ex2 k1] w1) => (haveI := Inv.tab (P := Tryd.prog) hI; sho2 w1 k1 (hI.at (k := k1) (List.mem_of_getElem? (i := 0) rfl)))
  refine TO.loud rfl (l_call ent20 (CallT.of_pure hk20) rfl ?_)
  clear hk20
  rintro vr O' ⟨N, rfl, wb1, wc1, rfl, rfl⟩
  refine TO.quiet (q_move rfl) (TO.quiet (q_extract (vs := _) rfl rfl) (TO.quiet (q_extract (vs := _) rfl rfl) (TO.quiet (q_extract (vs := _) rfl rfl) ?_)))
  refine TO.quiet (q_assign rfl) (TO.quiet (q_assign rfl) (TO.quiet (q_assign rfl) ?_))
  refine TO.sub (O' := [rowI wb1 wc1 5 1 (byts [1, 0])]) (by exact Sub.k .z) ?_
  refine TO.nil (T.seq (T.region ?_))
  have hk25 := fun (w1 : World) (hI : Inv w [rowI wb1 wc1 5 1 (byts [1, 0])] w1) => (haveI := Inv.tab (P := Tryd.prog) hI; secondK w1)
  refine TO.loud rfl (l_call ent23 (CallT.of_pure hk25) rfl ?_)
  clear hk25
  rintro vr O' ⟨N, rfl, k2, rfl, rfl⟩
  have hk26 := fun (w1 : World) (hI : Inv w [dI 41 4 3 ex2 k2, rowI wb1 wc1 5 1 (byts [1, 0])] w1) => (haveI := Inv.tab (P := Tryd.prog) hI; cnt2 w1 k2 (hI.at (k := k2) (List.mem_of_getElem? (i := 0) rfl)))
  refine TO.loud rfl (l_call ent22 (CallT.of_pure hk26) rfl ?_)
  clear hk26
  rintro vr O' ⟨N, rfl, rfl, rfl⟩
  refine TO.quiet (q_move rfl) (TO.quiet (q_extract (vs := _) rfl rfl) (TO.quiet (q_extract (vs := _) rfl rfl) (TO.quiet (q_assign rfl) ?_)))
  refine TO.quiet (q_assign rfl) ?_
  refine TO.sub (O' := [rowI wb1 wc1 5 1 (byts [1, 0])]) (by exact Sub.d (.k .z)) ?_
  refine TO.nil (T.seq (T.region ?_))
  have hk30 := fun (w1 : World) (hI : Inv w [rowI wb1 wc1 5 1 (byts [1, 0])] w1) => (haveI := Inv.tab (P := Tryd.prog) hI; secondK w1)
  refine TO.loud rfl (l_call ent23 (CallT.of_pure hk30) rfl ?_)
  clear hk30
  rintro vr O' ⟨N, rfl, k3, rfl, rfl⟩
  have hk31 := fun (w1 : World) (hI : Inv w [dI 41 4 3 ex2 k3, rowI wb1 wc1 5 1 (byts [1, 0])] w1) => (haveI := Inv.tab (P := Tryd.prog) hI; wds2 w1 k3 (hI.at (k := k3) (List.mem_of_getElem? (i := 0) rfl)))
  refine TO.loud rfl (l_call ent15 (CallT.of_pure hk31) rfl ?_)
  clear hk31
  rintro vr O' ⟨N, rfl, ws, lb, lc, hws, rfl, rfl⟩
  refine TO.quiet (q_move rfl) (TO.quiet (q_extract (vs := _) rfl rfl) (TO.quiet (q_extract (vs := _) rfl rfl) (TO.quiet (q_assign rfl) ?_)))
  refine TO.quiet (q_assign rfl) ?_
  refine TO.sub (O' := [wlI 29 5 lb lc ws, rowI wb1 wc1 5 1 (byts [1, 0])]) (by exact Sub.k (.d (.k .z))) ?_
  refine TO.nil (T.seq (T.region ?_))
  have hk35 := fun (w1 : World) (hI : Inv w [wlI 29 5 lb lc ws, rowI wb1 wc1 5 1 (byts [1, 0])] w1) => (haveI := Inv.tab (P := Tryd.prog) hI; secondK w1)
  refine TO.loud rfl (l_call ent23 (CallT.of_pure hk35) rfl ?_)
  clear hk35
  rintro vr O' ⟨N, rfl, k4, rfl, rfl⟩
  have hk36 := fun (w1 : World) (hI : Inv w [dI 41 4 3 ex2 k4, wlI 29 5 lb lc ws, rowI wb1 wc1 5 1 (byts [1, 0])] w1) => (haveI := Inv.tab (P := Tryd.prog) hI; fin2 w1 k4 (hI.at (k := k4) (List.mem_of_getElem? (i := 0) rfl)))
  refine TO.loud rfl (l_call ent21 (CallT.of_pure hk36) rfl ?_)
  clear hk36
  rintro vr O' ⟨N, rfl, rfl, rfl⟩
  refine TO.quiet (q_move rfl) (TO.quiet (q_extract (vs := _) rfl rfl) (TO.quiet (q_extract (vs := _) rfl rfl) (TO.quiet (q_assign rfl) ?_)))
  refine TO.quiet (q_assign rfl) ?_
  refine TO.sub (O' := [wlI 29 5 lb lc ws, rowI wb1 wc1 5 1 (byts [1, 0])]) (by exact Sub.d (.k (.k .z))) ?_
  refine TO.nil (T.seq (T.region ?_))
  have hk40 := fun (w1 : World) (hI : Inv w [wlI 29 5 lb lc ws, rowI wb1 wc1 5 1 (byts [1, 0])] w1) => (haveI := Inv.tab (P := Tryd.prog) hI; exactlyK w1)
  refine TO.loud rfl (l_call ent40 (CallT.of_pure hk40) rfl ?_)
  clear hk40
  rintro vr O' ⟨N, rfl, k5, rfl, rfl⟩
  have hk41 := fun (w1 : World) (hI : Inv w [dI 41 4 3 exX k5, wlI 29 5 lb lc ws, rowI wb1 wc1 5 1 (byts [1, 0])] w1) => (haveI := Inv.tab (P := Tryd.prog) hI; finX w1 k5 (hI.at (k := k5) (List.mem_of_getElem? (i := 0) rfl)))
  refine TO.loud rfl (l_call ent21 (CallT.of_pure hk41) rfl ?_)
  clear hk41
  rintro vr O' ⟨N, rfl, rfl, rfl⟩
  refine TO.quiet (q_move rfl) (TO.quiet (q_extract (vs := _) rfl rfl) (TO.quiet (q_extract (vs := _) rfl rfl) (TO.quiet (q_assign rfl) ?_)))
  refine TO.quiet (q_assign rfl) ?_
  refine TO.sub (O' := [wlI 29 5 lb lc ws, rowI wb1 wc1 5 1 (byts [1, 0])]) (by exact Sub.d (.k (.k .z))) ?_
  refine TO.nil (T.seq (T.region ?_))
  have hk45 := fun (w1 : World) (hI : Inv w [wlI 29 5 lb lc ws, rowI wb1 wc1 5 1 (byts [1, 0])] w1) => (haveI := Inv.tab (P := Tryd.prog) hI; exactlyK w1)
  refine TO.loud rfl (l_call ent40 (CallT.of_pure hk45) rfl ?_)
  clear hk45
  rintro vr O' ⟨N, rfl, k6, rfl, rfl⟩
  have hk46 := fun (w1 : World) (hI : Inv w [dI 41 4 3 exX k6, wlI 29 5 lb lc ws, rowI wb1 wc1 5 1 (byts [1, 0])] w1) => (haveI := Inv.tab (P := Tryd.prog) hI; nthX w1 k6 (hI.at (k := k6) (List.mem_of_getElem? (i := 0) rfl)))
  refine TO.loud rfl (l_call ent14 (CallT.of_pure hk46) rfl ?_)
  clear hk46
  rintro vr O' ⟨N, rfl, wb2, wc2, rfl, rfl⟩
  refine TO.quiet (q_move rfl) (TO.quiet (q_extract (vs := _) rfl rfl) (TO.quiet (q_extract (vs := _) rfl rfl) (TO.quiet (q_extract (vs := _) rfl rfl) ?_)))
  refine TO.quiet (q_assign rfl) (TO.quiet (q_assign rfl) (TO.quiet (q_assign rfl) ?_))
  refine TO.sub (O' := [rowI wb2 wc2 5 1 (byts []), wlI 29 5 lb lc ws, rowI wb1 wc1 5 1 (byts [1, 0])]) (by exact Sub.k (.d (.k (.k .z)))) ?_
  refine TO.nil (T.seq (T.region ?_))
  have hk51 := fun (w1 : World) (hI : Inv w [rowI wb2 wc2 5 1 (byts []), wlI 29 5 lb lc ws, rowI wb1 wc1 5 1 (byts [1, 0])] w1) => (haveI := Inv.tab (P := Tryd.prog) hI; secondK w1)
  refine TO.loud rfl (l_call ent23 (CallT.of_pure hk51) rfl ?_)
  clear hk51
  rintro vr O' ⟨N, rfl, k7, rfl, rfl⟩
  have hk52 := fun (w1 : World) (hI : Inv w [dI 41 4 3 ex2 k7, rowI wb2 wc2 5 1 (byts []), wlI 29 5 lb lc ws, rowI wb1 wc1 5 1 (byts [1, 0])] w1) => (haveI := Inv.tab (P := Tryd.prog) hI; nth2 w1 k7 (hI.at (k := k7) (List.mem_of_getElem? (i := 0) rfl)))
  refine TO.loud rfl (l_call ent14 (CallT.of_pure hk52) rfl ?_)
  clear hk52
  rintro vr O' ⟨N, rfl, wb3, wc3, rfl, rfl⟩
  refine TO.quiet (q_move rfl) (TO.quiet (q_extract (vs := _) rfl rfl) (TO.quiet (q_extract (vs := _) rfl rfl) (TO.quiet (q_extract (vs := _) rfl rfl) ?_)))
  refine TO.quiet (q_assign rfl) (TO.quiet (q_assign rfl) (TO.quiet (q_assign rfl) ?_))
  refine TO.sub (O' := [rowI wb3 wc3 5 1 (byts [0, 1, 0]), rowI wb2 wc2 5 1 (byts []), wlI 29 5 lb lc ws, rowI wb1 wc1 5 1 (byts [1, 0])]) (by exact Sub.k (.d (.k (.k (.k .z))))) ?_
  refine TO.nil (T.seq (T.region ?_))
  refine TO.quiet (q_move rfl) (TO.quiet (QT.toB (q_eql rfl rfl) (decide_eq_true rfl)) (TO.quiet (q_move rfl) ?_))
  refine TO.guarded rfl rfl rfl (LT.of_quiet rfl rfl (q_move rfl) ?_)
  refine TO.guarded rfl rfl rfl (LT.of_quiet rfl rfl (QT.toB (q_eql rfl rfl) (decide_eq_true rfl)) ?_)
  refine TO.quiet (q_pick1 rfl rfl) (TO.quiet (q_move rfl) ?_)
  refine TO.guarded rfl rfl rfl (LT.of_quiet rfl rfl (q_move rfl) ?_)
  refine TO.guarded rfl rfl rfl (LT.of_quiet rfl rfl (QT.toB (q_eql rfl rfl) (decide_eq_true rfl)) ?_)
  refine TO.quiet (q_pick1 rfl rfl) (TO.quiet (q_move rfl) ?_)
  refine TO.guarded rfl rfl rfl (LT.of_quiet rfl rfl (q_move rfl) ?_)
  refine TO.guarded rfl rfl rfl (LT.of_quiet rfl rfl (QT.toB (q_eql rfl rfl) (decide_eq_true rfl)) ?_)
  refine TO.quiet (q_pick1 rfl rfl) (TO.quiet (q_move rfl) ?_)
  refine TO.guarded rfl rfl rfl (LT.of_quiet rfl rfl (q_move rfl) ?_)
  refine TO.guarded rfl rfl rfl (LT.of_quiet rfl rfl (QT.toB (q_eql rfl rfl) (decide_eq_true rfl)) ?_)
  refine TO.quiet (q_pick1 rfl rfl) (TO.quiet (q_move rfl) ?_)
  refine TO.guarded rfl rfl rfl (LT.of_quiet rfl rfl (q_move rfl) ?_)
  refine TO.guarded rfl rfl rfl (LT.of_quiet rfl rfl (QT.toB (q_eql rfl rfl) (decide_eq_true rfl)) ?_)
  refine TO.quiet (q_pick1 rfl rfl) (TO.quiet (q_move rfl) ?_)
  refine TO.guarded rfl rfl rfl (LT.of_quiet rfl rfl (q_move rfl) ?_)
  refine TO.guarded rfl rfl rfl (LT.of_quiet rfl rfl (QT.toB (q_eql rfl rfl) (decide_eq_true rfl)) ?_)
  refine TO.quiet (q_pick1 rfl rfl) (TO.quiet (q_move rfl) ?_)
  refine TO.guarded rfl rfl rfl (LT.of_quiet rfl rfl (q_move rfl) ?_)
  refine TO.quiet (q_pick1 rfl rfl) (TO.quiet (q_move rfl) ?_)
  refine TO.guarded rfl rfl rfl (LT.of_quiet rfl rfl (q_move rfl) ?_)
  refine TO.guarded rfl rfl rfl (l_buildSlice (m := 2) (parts := [(0, .const (.int .u8 1)), (1, .const (.int .u8 0))]) (cs := [.int .u8 1, .int .u8 0]) Tryd.underlying29 inf5 (by decide) (by kernel_rfl) rfl (fun z1 => ?_))
  have hk88 := fun (w1 : World) (hI : Inv w [rowI (some ⟨z1, 0, none⟩) 2 5 1 [.int .u8 1, .int .u8 0], rowI wb3 wc3 5 1 (byts [0, 1, 0]), rowI wb2 wc2 5 1 (byts []), wlI 29 5 lb lc ws, rowI wb1 wc1 5 1 (byts [1, 0])] w1) => (haveI := Inv.tab (P := Tryd.prog) hI; (show PureT _ _ _ _ _ from by
      have h9 := equalBytes w1 wb1 (some ⟨z1, 0, none⟩) wc1 2 [1, 0] [1, 0] (hI.slOf (List.mem_of_getElem? (i := 4) rfl)) (hI.slOf (cs := byts [1, 0]) (List.mem_of_getElem? (i := 0) rfl)) (by decide)
      exact h9))
  refine TO.guarded rfl rfl rfl (l_call ent16 (CallT.of_pure hk88) rfl ?_)
  clear hk88
  rintro vr O' ⟨N, rfl, rfl, rfl⟩
  refine TO.quiet (q_pick1 rfl rfl) (TO.quiet (q_move rfl) ?_)
  refine TO.guarded rfl rfl rfl (LT.of_quiet rfl rfl (q_move rfl) ?_)
  refine TO.guarded rfl rfl rfl (LT.of_quiet rfl rfl (QT.toB (q_eql rfl rfl) (decide_eq_true rfl)) ?_)
  refine TO.quiet (q_pick1 rfl rfl) (TO.quiet (q_move rfl) ?_)
  refine TO.guarded rfl rfl rfl (LT.of_quiet rfl rfl (q_move rfl) ?_)
  refine TO.guarded rfl rfl rfl (l_buildSlice (m := 2) (parts := [(0, .const (.int .u8 1)), (1, .const (.int .u8 0))]) (cs := [.int .u8 1, .int .u8 0]) Tryd.underlying29 inf5 (by decide) (by kernel_rfl) rfl (fun z2 => ?_))
  refine TO.guarded rfl rfl rfl (l_buildSlice (m := 2) (parts := [(0, .const (.int .u8 1)), (1, .const (.int .u8 1))]) (cs := [.int .u8 1, .int .u8 1]) Tryd.underlying29 inf5 (by decide) (by kernel_rfl) rfl (fun z3 => ?_))
  refine TO.guarded rfl rfl rfl (l_buildSlice (m := 3) (parts := [(0, .const (.int .u8 0)), (1, .const (.int .u8 1)), (2, .const (.int .u8 0))]) (cs := [.int .u8 0, .int .u8 1, .int .u8 0]) Tryd.underlying29 inf5 (by decide) (by kernel_rfl) rfl (fun z4 => ?_))
  refine TO.guarded rfl rfl rfl (l_buildSlice (m := 3) (parts := [(0, .tmp 96), (1, .tmp 97), (2, .tmp 98)]) (cs := [(.slice (some ⟨z2, 0, none⟩) 2 2), (.slice (some ⟨z3, 0, none⟩) 2 2), (.slice (some ⟨z4, 0, none⟩) 3 3)]) Tryd.underlying33 inf29 (by decide) (by kernel_rfl) rfl (fun z5 => ?_))
  have hk100 := fun (w1 : World) (hI : Inv w [rowI (some ⟨z5, 0, none⟩) 3 29 1 [(.slice (some ⟨z2, 0, none⟩) 2 2), (.slice (some ⟨z3, 0, none⟩) 2 2), (.slice (some ⟨z4, 0, none⟩) 3 3)], rowI (some ⟨z4, 0, none⟩) 3 5 1 [.int .u8 0, .int .u8 1, .int .u8 0], rowI (some ⟨z3, 0, none⟩) 2 5 1 [.int .u8 1, .int .u8 1], rowI (some ⟨z2, 0, none⟩) 2 5 1 [.int .u8 1, .int .u8 0], rowI (some ⟨z1, 0, none⟩) 2 5 1 [.int .u8 1, .int .u8 0], rowI wb3 wc3 5 1 (byts [0, 1, 0]), rowI wb2 wc2 5 1 (byts []), wlI 29 5 lb lc ws, rowI wb1 wc1 5 1 (byts [1, 0])] w1) => (haveI := Inv.tab (P := Tryd.prog) hI; (show PureT _ _ _ _ _ from by
      have h8 := wlO hI (T2 := 29) (T1 := 5) (ws := ws) (List.mem_of_getElem? (i := 7) rfl)
      have h7 : ∀ q ∈ ws, q.xs.length < 9223372036854775807 := fun q hq => by
        have h6 : q.xs ∈ wnums ws := List.mem_map_of_mem hq
        rw [hws] at h6
        simp only [List.mem_cons, List.not_mem_nil, or_false] at h6
        rcases h6 with h6 | h6 | h6 <;> rw [h6] <;> decide
      have h5 : ws.length = 3 := by have := congrArg List.length hws; simpa using this
      have h9 := equalWords w1 lb (some ⟨z5, 0, none⟩) lc 3 ws [⟨some ⟨z2, 0, none⟩, 2, [1, 0]⟩, ⟨some ⟨z3, 0, none⟩, 2, [1, 1]⟩, ⟨some ⟨z4, 0, none⟩, 3, [0, 1, 0]⟩] h8.1 h8.2 (by omega) (hI.slOf (List.mem_of_getElem? (i := 0) rfl)) (by
        have g1 := hI.slOf (cs := byts [1, 0]) (List.mem_of_getElem? (i := 3) rfl)
        have g2 := hI.slOf (cs := byts [1, 1]) (List.mem_of_getElem? (i := 2) rfl)
        have g3 := hI.slOf (cs := byts [0, 1, 0]) (List.mem_of_getElem? (i := 1) rfl)
        intro q hq
        simp only [List.mem_cons, List.not_mem_nil, or_false] at hq
        rcases hq with rfl | rfl | rfl
        · exact g1
        · exact g2
        · exact g3) (show 3 < 9223372036854775807 by decide) h7
      rw [decide_eq_true (show wnums ws = wnums [⟨some ⟨z2, 0, none⟩, 2, [1, 0]⟩, ⟨some ⟨z3, 0, none⟩, 2, [1, 1]⟩, ⟨some ⟨z4, 0, none⟩, 3, [0, 1, 0]⟩] from hws)] at h9
      exact h9))
  refine TO.guarded rfl rfl rfl (l_call ent17 (CallT.of_pure hk100) rfl ?_)
  clear hk100
  rintro vr O' ⟨N, rfl, rfl, rfl⟩
  refine TO.quiet (q_pick1 rfl rfl) (TO.quiet (q_move rfl) ?_)
  refine TO.guarded rfl rfl rfl (LT.of_quiet rfl rfl (q_move rfl) ?_)
  refine TO.guarded rfl rfl rfl (LT.of_quiet rfl rfl (q_not rfl) ?_)
  refine TO.quiet (q_pick1 rfl rfl) (TO.quiet (q_move rfl) ?_)
  refine TO.guarded rfl rfl rfl (LT.of_quiet rfl rfl (q_move rfl) ?_)
  refine TO.quiet (q_pick1 rfl rfl) (TO.quiet (q_move rfl) ?_)
  refine TO.guarded rfl rfl rfl (LT.of_quiet rfl rfl (q_move rfl) ?_)
  refine TO.guarded rfl rfl rfl (LT.of_quiet rfl rfl (q_not rfl) ?_)
  refine TO.quiet (q_pick1 rfl rfl) (TO.quiet (q_move rfl) ?_)
  refine TO.guarded rfl rfl rfl (LT.of_quiet rfl rfl (q_move rfl) ?_)
  refine TO.quiet (q_pick1 rfl rfl) (TO.quiet (q_move rfl) ?_)
  refine TO.guarded rfl rfl rfl (LT.of_quiet rfl rfl (q_move rfl) ?_)
  refine TO.guarded rfl rfl rfl (l_buildSlice (m := 3) (parts := [(0, .const (.int .u8 0)), (1, .const (.int .u8 1)), (2, .const (.int .u8 0))]) (cs := [.int .u8 0, .int .u8 1, .int .u8 0]) Tryd.underlying29 inf5 (by decide) (by kernel_rfl) rfl (fun z6 => ?_))
  have hk119 := fun (w1 : World) (hI : Inv w [rowI (some ⟨z6, 0, none⟩) 3 5 1 [.int .u8 0, .int .u8 1, .int .u8 0], rowI (some ⟨z5, 0, none⟩) 3 29 1 [(.slice (some ⟨z2, 0, none⟩) 2 2), (.slice (some ⟨z3, 0, none⟩) 2 2), (.slice (some ⟨z4, 0, none⟩) 3 3)], rowI (some ⟨z4, 0, none⟩) 3 5 1 [.int .u8 0, .int .u8 1, .int .u8 0], rowI (some ⟨z3, 0, none⟩) 2 5 1 [.int .u8 1, .int .u8 1], rowI (some ⟨z2, 0, none⟩) 2 5 1 [.int .u8 1, .int .u8 0], rowI (some ⟨z1, 0, none⟩) 2 5 1 [.int .u8 1, .int .u8 0], rowI wb3 wc3 5 1 (byts [0, 1, 0]), rowI wb2 wc2 5 1 (byts []), wlI 29 5 lb lc ws, rowI wb1 wc1 5 1 (byts [1, 0])] w1) => (haveI := Inv.tab (P := Tryd.prog) hI; (show PureT _ _ _ _ _ from by
      have h9 := equalBytes w1 wb3 (some ⟨z6, 0, none⟩) wc3 3 [0, 1, 0] [0, 1, 0] (hI.slOf (List.mem_of_getElem? (i := 6) rfl)) (hI.slOf (cs := byts [0, 1, 0]) (List.mem_of_getElem? (i := 0) rfl)) (by decide)
      exact h9))
  refine TO.guarded rfl rfl rfl (l_call ent16 (CallT.of_pure hk119) rfl ?_)
  clear hk119
  rintro vr O' ⟨N, rfl, rfl, rfl⟩
  refine TO.quiet (q_pick1 rfl rfl) (TO.quiet (q_assign rfl) ?_)
  refine TO.nil (T.ret (Res.drop ?_))
  refine Res.one (.bool true) Tryd.results11 rfl ?_
  exact ⟨[], Sub.z, rfl, rfl⟩
end Go.Proofs.YtnmfefmhfkhihaaDoor


namespace Go.Proofs.YtnmfefmhfkhihaaDoor
open Go.Lx Go.RowKit
set_option linter.unusedVariables false
set_option linter.unusedSimpArgs false
end Go.Proofs.YtnmfefmhfkhihaaDoor


namespace Go.Lx
open Go.RowKit
set_option linter.unusedVariables false
end Go.Lx


namespace Go.Proofs.YtnmfefmhfkhihaaDoor
open Go.Lx Go.RowKit
set_option linter.unusedVariables false
set_option linter.unusedSimpArgs false
end Go.Proofs.YtnmfefmhfkhihaaDoor


namespace Go.Proofs.YtnmfefmhfkhihaaDoor
open Go.Lx Go.RowKit
set_option linter.unusedVariables false
set_option linter.unusedSimpArgs false
end Go.Proofs.YtnmfefmhfkhihaaDoor


namespace Go.Lx
open Go.RowKit Go.ChangeShapes Go.WideShapes Go.Deep
set_option linter.unusedVariables false
section
variable {H : Type} {enc : TypeId × Value → H} {P : Program}
theorem TrodAll_stays (hl : laidOutB P = true) {W W' : World} {sp' : Nat → Bool} : ∀ {ts : List TypeId} {vs : List Value} {ds : List (DataW H)} {ps : List MemPlace},
    (∀ t ∈ ts, P.readableRec t = true ∧ t < P.types.size) → DataW.TrodAll enc P W 0 (fun _ => true) true ts vs ds ps → (∀ p ∈ ps, W.sameAt W' p) → (∀ p ∈ ps, sp' p.block = true) → DataW.TrodAll enc P W' 0 sp' true ts vs ds ps
  | [], _, _, _, _, h, _, _ => by
    obtain ⟨rfl, rfl, rfl⟩ := trodAll_nil h
    rfl
  | t :: ts, _, _, _, hr, h, hs, hsp => by
    obtain ⟨v, vs1, d, ds1, p, q, rfl, rfl, rfl, h1, h2⟩ := trodAll_cons h
    have ht := hr t (by simp)
    exact ⟨p, q, WideElems.Trod_stays hl ht.1 ht.2 h1 (fun x hx => hs x (List.mem_append_left _ hx)) (fun x hx => hsp x (List.mem_append_left _ hx)),
      TrodAll_stays hl (fun t ht => hr t (by simp [ht])) h2 (fun x hx => hs x (List.mem_append_right _ hx)) (fun x hx => hsp x (List.mem_append_right _ hx)), rfl⟩
theorem post_law {f : Func} {s : ChangeSpec} {W W' : World} {args : Array Value} {ds gs : List (DataW H)} {before : List MemPlace} {tb : TypeId}
    (hl : laidOutB P = true) (hr : ∀ t ∈ f.params.toList, P.readableRec t = true ∧ t < P.types.size) (hres : f.resultTypes = #[tb]) (hb : P.underlying tb = some .bool) (hv : s.vars = [])
    (hW : DataW.Whole enc P f.params.toList s.vars false W args.toList ds gs before)
    (h1 : (s.fn H ds).results = [.lit (.bool true)]) (h2 : (s.fn H ds).args = ds) (h3 : (s.fn H ds).vars = [])
    (hB : Below W.heap.size W W') : s.post enc P f false true false false W args (.bool true) W' := by
  have hW0 := hW
  obtain ⟨p, q, hA, hV, rfl, hz, hn⟩ := hW
  rw [hv] at hV
  obtain ⟨rfl, rfl⟩ := trodVars_none hV
  simp only [List.append_nil] at hW0 hz hn
  have hlt := hW0.lt
  have hsame : ∀ x ∈ p, W.sameAt W' x := fun x hx => hB.same (hlt x hx)
  have hargs : ∀ sp : Nat → Bool, (∀ x ∈ p, sp x.block = true) → DataW.TrodAll enc P W' 0 sp true f.params.toList args.toList (s.fn H (ds ++ [])).args p := fun sp hsp => by
    rw [List.append_nil, h2]
    exact TrodAll_stays hl hr hA hsame hsp
  have hvars : ∀ sp : Nat → Bool, DataW.TrodVars enc P W' sp s.vars (s.fn H (ds ++ [])).vars [] := fun sp => by
    rw [List.append_nil, hv, h3]; rfl
  have hresult : ∀ (b : Nat) (sp : Nat → Bool) (hd : Bool), DataW.TrodAll enc P W' b sp hd f.resultTypes.toList ((Value.bool true).resultList f.resultTypes.size) (s.fn H (ds ++ [])).results [] := fun b sp hd => by
    rw [List.append_nil, h1, hres]
    exact trodAll_cons_mk (shut_bool hb _) trodAll_mk0
  have hold : ∀ x ∈ p, (fun b => decide (b < W.heap.size)) x.block = true := fun x hx => by simpa using hlt x hx
  refine ⟨ds, [], p, [], p, [], hW0, hresult _ _ _, hargs _ hold, hvars _, World.keptBut_mono (fun x hx => ⟨hx, ?_⟩) (hB.frame _), fun _ => ?_⟩
  · exact Or.inr (by simpa using hx)
  · refine ⟨ok_one hres rfl (okWide_bool_mk hb _), _, _, ([] ++ p) ++ [], ⟨[] ++ p, [], trodAll_append (hargs _ (fun _ _ => rfl)) (hresult _ _ _), hvars _, rfl, ?_, ?_⟩, ?_⟩
    · intro b off hx
      have hx' : MemPlace.cell b off ∈ p := by simpa using hx
      rw [hB.frozen (p := ⟨b, off, none⟩) (hlt _ hx')]
      exact hz b off hx'
    · intro ha; cases ha
    · intro x hx _
      simpa using hx
end
end Go.Lx


namespace Go.Proofs.YtnmfefmhfkhihaaDoor
open Go.ChangeShapes Go.WideShapes Go.ChangeAt Go.RowKit Go.Lx
set_option maxRecDepth 100000
theorem own : ownKnob Tryd.prog.godebug = none := by kernel_rfl
theorem laidOut : laidOutB Tryd.prog = true := by kernel_rfl
def fillO (cs : Array Value) : Obj → Obj
  | .cells _ t frozen => .cells cs t frozen
  | o => o
noncomputable def laidWorld (os : Os) : World :=
  { World.holding Tryd.prog os ⟨#[], #[], []⟩ with heap := ((((World.holding Tryd.prog os ⟨#[], #[], []⟩).heap.modify 0 (fillO #[.int .u64 1, .int .u64 10, .int .u64 100, .int .u64 1000, .int .u64 10000, .int .u64 100000, .int .u64 1000000, .int .u64 10000000, .int .u64 100000000, .int .u64 1000000000, .int .u64 10000000000, .int .u64 100000000000, .int .u64 1000000000000, .int .u64 10000000000000, .int .u64 100000000000000, .int .u64 1000000000000000, .int .u64 10000000000000000, .int .u64 100000000000000000, .int .u64 1000000000000000000, .int .u64 10000000000000000000])).modify 1 (fillO #[.int .u8 0, .int .u8 1, .int .u8 28, .int .u8 2, .int .u8 29, .int .u8 14, .int .u8 24, .int .u8 3, .int .u8 30, .int .u8 22, .int .u8 20, .int .u8 15, .int .u8 25, .int .u8 17, .int .u8 4, .int .u8 8, .int .u8 31, .int .u8 27, .int .u8 13, .int .u8 23, .int .u8 21, .int .u8 19, .int .u8 16, .int .u8 7, .int .u8 26, .int .u8 12, .int .u8 18, .int .u8 6, .int .u8 11, .int .u8 5, .int .u8 10, .int .u8 9])).modify 2 (fillO #[.int .u8 0, .int .u8 1, .int .u8 56, .int .u8 2, .int .u8 57, .int .u8 49, .int .u8 28, .int .u8 3, .int .u8 61, .int .u8 58, .int .u8 42, .int .u8 50, .int .u8 38, .int .u8 29, .int .u8 17, .int .u8 4, .int .u8 62, .int .u8 47, .int .u8 59, .int .u8 36, .int .u8 45, .int .u8 43, .int .u8 51, .int .u8 22, .int .u8 53, .int .u8 39, .int .u8 33, .int .u8 30, .int .u8 24, .int .u8 18, .int .u8 12, .int .u8 5, .int .u8 63, .int .u8 55, .int .u8 48, .int .u8 27, .int .u8 60, .int .u8 41, .int .u8 37, .int .u8 16, .int .u8 46, .int .u8 35, .int .u8 44, .int .u8 21, .int .u8 52, .int .u8 32, .int .u8 23, .int .u8 11, .int .u8 54, .int .u8 26, .int .u8 40, .int .u8 15, .int .u8 34, .int .u8 20, .int .u8 31, .int .u8 10, .int .u8 25, .int .u8 14, .int .u8 19, .int .u8 9, .int .u8 13, .int .u8 8, .int .u8 7, .int .u8 6])) }
theorem tabOf {W : World} (hL : laidMetH Tryd.prog [("math/bits.deBruijn32tab", Rows.laid_math_bits_deBruijn32tab), ("math/bits.deBruijn64tab", Rows.laid_math_bits_deBruijn64tab), ("internal/strconv.uint64pow10", Rows.laid_internal_strconv_uint64pow10)] W) : Tab Tryd.prog W := by
  have h : laidMet Tryd.prog [("math/bits.deBruijn32tab", Rows.laid_math_bits_deBruijn32tab), ("math/bits.deBruijn64tab", Rows.laid_math_bits_deBruijn64tab), ("internal/strconv.uint64pow10", Rows.laid_internal_strconv_uint64pow10)] W := hL
  obtain ⟨ps, h, _⟩ := h
  obtain ⟨_, h⟩ := laidVars_tail h
  obtain ⟨_, h⟩ := laidVars_tail h
  exact Tab.of (tabIs_of_vars (g := 0) (t := 135) (e := 26) (n := 20) (by kernel_rfl) (by kernel_rfl) (by kernel_rfl) Tryd.underlying135 Tryd.underlying26 (by kernel_rfl) (by kernel_rfl) h)
end Go.Proofs.YtnmfefmhfkhihaaDoor

