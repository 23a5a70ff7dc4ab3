/- Contracts of functions of the program (Kit): what each call answers and that it leaves memory as it was. Conditions: those each theorem names. -/
import Derived.Test.YthfemndklplpbaaDoorFacts
import Derived.Test.YthfemndklplpbaaDoorCoreG
set_option linter.unusedSectionVars false
set_option linter.unusedSimpArgs false
set_option linter.unusedVariables false
set_option linter.unnecessarySimpa false
namespace Go.Proofs.YthfemndklplpbaaDoor
open Go.Lx Go.RowKit
set_option linter.unusedVariables false
set_option linter.unusedSimpArgs false

set_option maxHeartbeats 1000000 in
set_option maxRecDepth 20000 in
theorem equalInts (w : World) (b1 b2 : Option Addr) (c1 c2 : Nat) (xs ys : List Int) (h1 : Sl w b1 (ints xs)) (h2 : Sl w b2 (ints ys)) (hb : xs.length < 9223372036854775807) :
    PureT Tryd.prog 21 [(.slice b1 xs.length c1), (.slice b2 ys.length c2)] w fun v N => v = .bool (decide (xs = ys)) ∧ N = [] := by
  refine CallT.enter Tryd.func21 rfl Tryd.ntmps21 rfl ?_
  refine T.seq ?_
  refine T.region ?_
  refine TO.quiet (q_assign rfl) ?_
  refine TO.nil ?_
  refine T.seq ?_
  refine T.seq ?_
  refine T.region ?_
  refine TO.quiet (q_move rfl) ?_
  refine TO.quiet (q_len Tryd.underlying33 rfl) ?_
  refine TO.quiet (q_move rfl) ?_
  refine TO.quiet (q_len Tryd.underlying33 rfl) ?_
  refine TO.quiet (q_neq rfl rfl) ?_
  refine TO.nil ?_
  refine T.condP rfl (fun hc => ?_) (fun hc => ?_)
  · have hlen : xs.length ≠ ys.length := by omega
    refine T.seq ?_
    refine T.region ?_
    refine TO.quiet (q_assign rfl) ?_
    refine TO.nil ?_
    refine T.ret ?_
    refine Res.one (.bool false) Tryd.results21 rfl ?_
    exact ⟨congrArg Value.bool (decide_eq_false (fun e => hlen (by rw [e]))).symm, rfl⟩
  · have hlen : xs.length = ys.length := by omega
    refine T.skip ?_
    refine T.seq ?_
    refine T.seq ?_
    refine T.region ?_
    refine TO.quiet (q_assign rfl) ?_
    refine TO.nil ?_
    refine T.block ?_
    refine T.loop (fun (k : Nat) ρ O => O = [] ∧ k ≤ xs.length ∧ xs.take k = ys.take k ∧ Heads [(0, (.slice b1 xs.length c1)), (1, (.slice b2 ys.length c2)), (5, .int .i64 (k : Int))] ρ) (fun k => xs.length - k) 0 ?_ ?_
    · exact ⟨rfl, Nat.zero_le _, rfl, ⟨rfl, rfl, rfl, trivial⟩⟩
    · rintro k ρ O ⟨rfl, hk, he, hH⟩
      obtain ⟨ρ0, rfl⟩ := hH.elim
      clear hH
      refine T.seq ?_
      refine T.seq ?_
      refine T.region ?_
      refine TO.quiet (q_move rfl) ?_
      refine TO.quiet (q_move rfl) ?_
      refine TO.quiet (q_len Tryd.underlying33 rfl) ?_
      refine TO.quiet (q_lss rfl rfl) ?_
      refine TO.nil ?_
      refine T.condP rfl (fun hc => ?_) (fun hc => ?_)
      · have hlt : k < xs.length := by omega
        have hlt2 : k < ys.length := by omega
        obtain ⟨kb1, ko1, rfl⟩ := h1.addr (i := k) (by simpa using hlt)
        obtain ⟨kb2, ko2, rfl⟩ := h2.addr (i := k) (by simpa using hlt2)
        refine T.skip ?_
        refine T.seq ?_
        refine T.block ?_
        refine T.seq ?_
        refine T.draws _ [(0, 0), (1, 0), (2, 0), (3, 0), (4, 0), (5, 0), (6, 0), (7, 0), (8, 0)] mixed (by kernel_rfl) (Sub.of (List.Sublist.refl _)) (fun _ _ _ h => h) ?_
        refine DO.quiet rfl (q_move rfl) ?_
        refine DO.quiet rfl (q_move rfl) ?_
        refine DO.quiet rfl (q_idx Tryd.underlying33 inf3 rfl rfl hlt) ?_
        refine DO.quiet rfl (q_load_sl Tryd.underlying3 rfl rfl h1 (ints_get hlt)) ?_
        refine DO.quiet rfl (q_move rfl) ?_
        refine DO.quiet rfl (q_move rfl) ?_
        refine DO.quiet rfl (q_idx Tryd.underlying33 inf3 rfl rfl hlt2) ?_
        refine DO.quiet rfl (q_load_sl Tryd.underlying3 rfl rfl h2 (ints_get hlt2)) ?_
        refine DO.quiet rfl (q_neq rfl rfl) ?_
        refine DO.done ?_
        refine T.condP (p := ¬ xs[k] = ys[k]) rfl (fun hc => ?_) (fun hc => ?_)
        · refine T.seq ?_
          refine T.region ?_
          refine TO.quiet (q_assign rfl) ?_
          refine TO.nil ?_
          refine T.ret ?_
          refine Res.one (.bool false) Tryd.results21 rfl ?_
          exact ⟨congrArg Value.bool (decide_eq_false (fun e => hc (by subst e; rfl))).symm, rfl⟩
        · refine T.skip ?_
          refine T.region ?_
          refine TO.quiet (q_move rfl) ?_
          refine TO.quiet (q_inc rfl rfl (by omega)) ?_
          refine TO.quiet (q_assign rfl) ?_
          refine TO.nil ?_
          refine ⟨k + 1, by omega, rfl, by omega, ?_, ⟨rfl, rfl, rfl, trivial⟩⟩
          rw [List.take_succ_eq_append_getElem hlt, List.take_succ_eq_append_getElem hlt2, he]
          exact congrArg _ (congrArg (fun z => [z]) (Classical.not_not.1 hc))
      · refine T.exit ?_
        refine T.seq ?_
        refine T.region ?_
        refine TO.quiet (q_assign rfl) ?_
        refine TO.nil ?_
        refine T.ret ?_
        refine Res.one (.bool true) Tryd.results21 rfl ?_
        exact ⟨congrArg Value.bool (decide_eq_true (show xs = ys by rw [List.take_of_length_le (by omega), List.take_of_length_le (by omega)] at he; exact he)).symm, rfl⟩

set_option maxHeartbeats 1000000 in
set_option maxRecDepth 20000 in
theorem equalBools (w : World) (b1 b2 : Option Addr) (c1 c2 : Nat) (xs ys : List Bool) (h1 : Sl w b1 (bools xs)) (h2 : Sl w b2 (bools ys)) (hb : xs.length < 9223372036854775807) :
    PureT Tryd.prog 47 [(.slice b1 xs.length c1), (.slice b2 ys.length c2)] w fun v N => v = .bool (decide (xs = ys)) ∧ N = [] := by
  refine CallT.enter Tryd.func47 rfl Tryd.ntmps47 rfl ?_
  refine T.seq ?_
  refine T.region ?_
  refine TO.quiet (q_assign rfl) ?_
  refine TO.nil ?_
  refine T.seq ?_
  refine T.seq ?_
  refine T.region ?_
  refine TO.quiet (q_move rfl) ?_
  refine TO.quiet (q_len Tryd.underlying23 rfl) ?_
  refine TO.quiet (q_move rfl) ?_
  refine TO.quiet (q_len Tryd.underlying23 rfl) ?_
  refine TO.quiet (q_neq rfl rfl) ?_
  refine TO.nil ?_
  refine T.condP rfl (fun hc => ?_) (fun hc => ?_)
  · have hlen : xs.length ≠ ys.length := by omega
    refine T.seq ?_
    refine T.region ?_
    refine TO.quiet (q_assign rfl) ?_
    refine TO.nil ?_
    refine T.ret ?_
    refine Res.one (.bool false) Tryd.results47 rfl ?_
    exact ⟨congrArg Value.bool (decide_eq_false (fun e => hlen (by rw [e]))).symm, rfl⟩
  · have hlen : xs.length = ys.length := by omega
    refine T.skip ?_
    refine T.seq ?_
    refine T.seq ?_
    refine T.region ?_
    refine TO.quiet (q_assign rfl) ?_
    refine TO.nil ?_
    refine T.block ?_
    refine T.loop (fun (k : Nat) ρ O => O = [] ∧ k ≤ xs.length ∧ xs.take k = ys.take k ∧ Heads [(0, (.slice b1 xs.length c1)), (1, (.slice b2 ys.length c2)), (5, .int .i64 (k : Int))] ρ) (fun k => xs.length - k) 0 ?_ ?_
    · exact ⟨rfl, Nat.zero_le _, rfl, ⟨rfl, rfl, rfl, trivial⟩⟩
    · rintro k ρ O ⟨rfl, hk, he, hH⟩
      obtain ⟨ρ0, rfl⟩ := hH.elim
      clear hH
      refine T.seq ?_
      refine T.seq ?_
      refine T.region ?_
      refine TO.quiet (q_move rfl) ?_
      refine TO.quiet (q_move rfl) ?_
      refine TO.quiet (q_len Tryd.underlying23 rfl) ?_
      refine TO.quiet (q_lss rfl rfl) ?_
      refine TO.nil ?_
      refine T.condP rfl (fun hc => ?_) (fun hc => ?_)
      · have hlt : k < xs.length := by omega
        have hlt2 : k < ys.length := by omega
        obtain ⟨kb1, ko1, rfl⟩ := h1.addr (i := k) (by simpa using hlt)
        obtain ⟨kb2, ko2, rfl⟩ := h2.addr (i := k) (by simpa using hlt2)
        refine T.skip ?_
        refine T.seq ?_
        refine T.block ?_
        refine T.seq ?_
        refine T.draws _ [(0, 0), (1, 0), (2, 0), (3, 0), (4, 0), (5, 0), (6, 0), (7, 0), (8, 0)] mixed (by kernel_rfl) (Sub.of (List.Sublist.refl _)) (fun _ _ _ h => h) ?_
        refine DO.quiet rfl (q_move rfl) ?_
        refine DO.quiet rfl (q_move rfl) ?_
        refine DO.quiet rfl (q_idx Tryd.underlying23 inf4 rfl rfl hlt) ?_
        refine DO.quiet rfl (q_load_sl Tryd.underlying4 rfl rfl h1 (bools_get hlt)) ?_
        refine DO.quiet rfl (q_move rfl) ?_
        refine DO.quiet rfl (q_move rfl) ?_
        refine DO.quiet rfl (q_idx Tryd.underlying23 inf4 rfl rfl hlt2) ?_
        refine DO.quiet rfl (q_load_sl Tryd.underlying4 rfl rfl h2 (bools_get hlt2)) ?_
        refine DO.quiet rfl (q_bneq Tryd.underlying4 rfl rfl) ?_
        refine DO.done ?_
        refine T.condP (p := ¬ xs[k] = ys[k]) (congrArg Value.bool (by cases xs[k] <;> cases ys[k] <;> rfl)) (fun hc => ?_) (fun hc => ?_)
        · refine T.seq ?_
          refine T.region ?_
          refine TO.quiet (q_assign rfl) ?_
          refine TO.nil ?_
          refine T.ret ?_
          refine Res.one (.bool false) Tryd.results47 rfl ?_
          exact ⟨congrArg Value.bool (decide_eq_false (fun e => hc (by subst e; rfl))).symm, rfl⟩
        · refine T.skip ?_
          refine T.region ?_
          refine TO.quiet (q_move rfl) ?_
          refine TO.quiet (q_inc rfl rfl (by omega)) ?_
          refine TO.quiet (q_assign rfl) ?_
          refine TO.nil ?_
          refine ⟨k + 1, by omega, rfl, by omega, ?_, ⟨rfl, rfl, rfl, trivial⟩⟩
          rw [List.take_succ_eq_append_getElem hlt, List.take_succ_eq_append_getElem hlt2, he]
          exact congrArg _ (congrArg (fun z => [z]) (Classical.not_not.1 hc))
      · refine T.exit ?_
        refine T.seq ?_
        refine T.region ?_
        refine TO.quiet (q_assign rfl) ?_
        refine TO.nil ?_
        refine T.ret ?_
        refine Res.one (.bool true) Tryd.results47 rfl ?_
        exact ⟨congrArg Value.bool (decide_eq_true (show xs = ys by rw [List.take_of_length_le (by omega), List.take_of_length_le (by omega)] at he; exact he)).symm, rfl⟩

set_option maxHeartbeats 1000000 in
set_option maxRecDepth 20000 in
theorem equalBytes (w : World) (b1 b2 : Option Addr) (c1 c2 : Nat) (xs ys : List Nat) (h1 : Sl w b1 (byts xs)) (h2 : Sl w b2 (byts ys)) (hb : xs.length < 9223372036854775807) :
    PureT Tryd.prog 28 [(.slice b1 xs.length c1), (.slice b2 ys.length c2)] w fun v N => v = .bool (decide (xs = ys)) ∧ N = [] := by
  refine CallT.enter Tryd.func28 rfl Tryd.ntmps28 rfl ?_
  refine T.seq ?_
  refine T.region ?_
  refine TO.quiet (q_assign rfl) ?_
  refine TO.nil ?_
  refine T.seq ?_
  refine T.seq ?_
  refine T.region ?_
  refine TO.quiet (q_move rfl) ?_
  refine TO.quiet (q_len Tryd.underlying42 rfl) ?_
  refine TO.quiet (q_move rfl) ?_
  refine TO.quiet (q_len Tryd.underlying42 rfl) ?_
  refine TO.quiet (q_neq rfl rfl) ?_
  refine TO.nil ?_
  refine T.condP rfl (fun hc => ?_) (fun hc => ?_)
  · have hlen : xs.length ≠ ys.length := by omega
    refine T.seq ?_
    refine T.region ?_
    refine TO.quiet (q_assign rfl) ?_
    refine TO.nil ?_
    refine T.ret ?_
    refine Res.one (.bool false) Tryd.results28 rfl ?_
    exact ⟨congrArg Value.bool (decide_eq_false (fun e => hlen (by rw [e]))).symm, rfl⟩
  · have hlen : xs.length = ys.length := by omega
    refine T.skip ?_
    refine T.seq ?_
    refine T.seq ?_
    refine T.region ?_
    refine TO.quiet (q_assign rfl) ?_
    refine TO.nil ?_
    refine T.block ?_
    refine T.loop (fun (k : Nat) ρ O => O = [] ∧ k ≤ xs.length ∧ xs.take k = ys.take k ∧ Heads [(0, (.slice b1 xs.length c1)), (1, (.slice b2 ys.length c2)), (5, .int .i64 (k : Int))] ρ) (fun k => xs.length - k) 0 ?_ ?_
    · exact ⟨rfl, Nat.zero_le _, rfl, ⟨rfl, rfl, rfl, trivial⟩⟩
    · rintro k ρ O ⟨rfl, hk, he, hH⟩
      obtain ⟨ρ0, rfl⟩ := hH.elim
      clear hH
      refine T.seq ?_
      refine T.seq ?_
      refine T.region ?_
      refine TO.quiet (q_move rfl) ?_
      refine TO.quiet (q_move rfl) ?_
      refine TO.quiet (q_len Tryd.underlying42 rfl) ?_
      refine TO.quiet (q_lss rfl rfl) ?_
      refine TO.nil ?_
      refine T.condP rfl (fun hc => ?_) (fun hc => ?_)
      · have hlt : k < xs.length := by omega
        have hlt2 : k < ys.length := by omega
        obtain ⟨kb1, ko1, rfl⟩ := h1.addr (i := k) (by simpa using hlt)
        obtain ⟨kb2, ko2, rfl⟩ := h2.addr (i := k) (by simpa using hlt2)
        refine T.skip ?_
        refine T.seq ?_
        refine T.block ?_
        refine T.seq ?_
        refine T.draws _ [(0, 0), (1, 0), (2, 0), (3, 0), (4, 0), (5, 0), (6, 0), (7, 0), (8, 0)] mixed (by kernel_rfl) (Sub.of (List.Sublist.refl _)) (fun _ _ _ h => h) ?_
        refine DO.quiet rfl (q_move rfl) ?_
        refine DO.quiet rfl (q_move rfl) ?_
        refine DO.quiet rfl (q_idx Tryd.underlying42 inf5 rfl rfl hlt) ?_
        refine DO.quiet rfl (q_load_sl Tryd.underlying5 rfl rfl h1 (byts_get hlt)) ?_
        refine DO.quiet rfl (q_move rfl) ?_
        refine DO.quiet rfl (q_move rfl) ?_
        refine DO.quiet rfl (q_idx Tryd.underlying42 inf5 rfl rfl hlt2) ?_
        refine DO.quiet rfl (q_load_sl Tryd.underlying5 rfl rfl h2 (byts_get hlt2)) ?_
        refine DO.quiet rfl (q_neq rfl rfl) ?_
        refine DO.done ?_
        refine T.condP (p := ¬ xs[k] = ys[k]) (congrArg Value.bool (decide_eq_decide.2 (by omega))) (fun hc => ?_) (fun hc => ?_)
        · refine T.seq ?_
          refine T.region ?_
          refine TO.quiet (q_assign rfl) ?_
          refine TO.nil ?_
          refine T.ret ?_
          refine Res.one (.bool false) Tryd.results28 rfl ?_
          exact ⟨congrArg Value.bool (decide_eq_false (fun e => hc (by subst e; rfl))).symm, rfl⟩
        · refine T.skip ?_
          refine T.region ?_
          refine TO.quiet (q_move rfl) ?_
          refine TO.quiet (q_inc rfl rfl (by omega)) ?_
          refine TO.quiet (q_assign rfl) ?_
          refine TO.nil ?_
          refine ⟨k + 1, by omega, rfl, by omega, ?_, ⟨rfl, rfl, rfl, trivial⟩⟩
          rw [List.take_succ_eq_append_getElem hlt, List.take_succ_eq_append_getElem hlt2, he]
          exact congrArg _ (congrArg (fun z => [z]) (Classical.not_not.1 hc))
      · refine T.exit ?_
        refine T.seq ?_
        refine T.region ?_
        refine TO.quiet (q_assign rfl) ?_
        refine TO.nil ?_
        refine T.ret ?_
        refine Res.one (.bool true) Tryd.results28 rfl ?_
        exact ⟨congrArg Value.bool (decide_eq_true (show xs = ys by rw [List.take_of_length_le (by omega), List.take_of_length_le (by omega)] at he; exact he)).symm, rfl⟩

set_option maxHeartbeats 1000000 in
set_option maxRecDepth 20000 in
theorem copyInts (w : World) (b1 : Option Addr) (c1 : Nat) (xs : List Int) (h1 : Sl w b1 (ints xs)) (hb : xs.length * 8 ≤ 70368744177664) :
    PureT Tryd.prog 57 [.slice b1 xs.length c1] w fun v N => ∃ b c, v = .slice b xs.length c ∧ N = [rowI b c 3 1 (ints xs)] := by
  refine CallT.enter Tryd.func57 rfl Tryd.ntmps57 rfl ?_
  refine T.seq ?_
  refine T.region ?_
  refine TO.quiet (q_assign rfl) ?_
  refine TO.nil ?_
  refine T.seq ?_
  refine T.region ?_
  refine TO.quiet (q_move rfl) ?_
  refine TO.loud rfl (l_appendN (l := xs.length) Tryd.underlying33 Tryd.underlying33 inf3 rfl rfl rfl (by decide) (Src.sl h1 (by simp)) (ints_one xs) (by omega) (by decide) (by decide) (fun b1 c2 => ?_))
  refine TO.quiet (q_assign rfl) ?_
  refine TO.nil ?_
  refine T.ret ?_
  refine Res.one (.slice b1 xs.length c2) Tryd.results57 rfl ?_
  exact ⟨_, _, rfl, rfl⟩

set_option maxHeartbeats 1000000 in
set_option maxRecDepth 20000 in
theorem copyBools (w : World) (b1 : Option Addr) (c1 : Nat) (xs : List Bool) (h1 : Sl w b1 (bools xs)) (hb : xs.length * 1 ≤ 70368744177664) :
    PureT Tryd.prog 39 [.slice b1 xs.length c1] w fun v N => ∃ b c, v = .slice b xs.length c ∧ N = [rowI b c 4 1 (bools xs)] := by
  refine CallT.enter Tryd.func39 rfl Tryd.ntmps39 rfl ?_
  refine T.seq ?_
  refine T.region ?_
  refine TO.quiet (q_assign rfl) ?_
  refine TO.nil ?_
  refine T.seq ?_
  refine T.region ?_
  refine TO.quiet (q_move rfl) ?_
  refine TO.loud rfl (l_appendN (l := xs.length) Tryd.underlying23 Tryd.underlying23 inf4 rfl rfl rfl (by decide) (Src.sl h1 (by simp)) (bools_one xs) (by omega) (by decide) (by decide) (fun b1 c2 => ?_))
  refine TO.quiet (q_assign rfl) ?_
  refine TO.nil ?_
  refine T.ret ?_
  refine Res.one (.slice b1 xs.length c2) Tryd.results39 rfl ?_
  exact ⟨_, _, rfl, rfl⟩

set_option maxHeartbeats 1000000 in
set_option maxRecDepth 20000 in
theorem equalRows (w : World) (b1 b2 : Option Addr) (c1 c2 : Nat) (vs us : List Value) (rs ss : List (List Int)) (h1 : Sl w b1 vs) (hr1 : RowsR w vs rs) (h2 : Sl w b2 us) (hr2 : RowsR w us ss) (hb : rs.length < 9223372036854775807) (hbr : ∀ r ∈ rs, r.length < 9223372036854775807) :
    PureT Tryd.prog 46 [.slice b1 rs.length c1, .slice b2 ss.length c2] w fun v N => v = .bool (decide (rs = ss)) ∧ N = [] := by
  refine CallT.enter Tryd.func46 rfl Tryd.ntmps46 rfl ?_
  refine T.seq ?_
  refine T.region ?_
  refine TO.quiet (q_assign rfl) ?_
  refine TO.nil ?_
  refine T.seq ?_
  refine T.seq ?_
  refine T.region ?_
  refine TO.quiet (q_move rfl) ?_
  refine TO.quiet (q_len Tryd.underlying22 rfl) ?_
  refine TO.quiet (q_move rfl) ?_
  refine TO.quiet (q_len Tryd.underlying22 rfl) ?_
  refine TO.quiet (q_neq rfl rfl) ?_
  refine TO.nil ?_
  refine T.condP rfl (fun hc => ?_) (fun hc => ?_)
  · have hlen : rs.length ≠ ss.length := by omega
    refine T.seq ?_
    refine T.region ?_
    refine TO.quiet (q_assign rfl) ?_
    refine TO.nil ?_
    refine T.ret ?_
    refine Res.one (.bool false) Tryd.results46 rfl ?_
    exact ⟨congrArg Value.bool (decide_eq_false (fun e => hlen (by rw [e]))).symm, rfl⟩
  · have hlen : rs.length = ss.length := by omega
    refine T.skip ?_
    refine T.seq ?_
    refine T.seq ?_
    refine T.region ?_
    refine TO.quiet (q_assign rfl) ?_
    refine TO.nil ?_
    refine T.block ?_
    refine T.loop (fun (k : Nat) ρ O => O = [] ∧ k ≤ rs.length ∧ rs.take k = ss.take k ∧ Heads [(0, (.slice b1 rs.length c1)), (1, (.slice b2 ss.length c2)), (5, .int .i64 (k : Int))] ρ) (fun k => rs.length - k) 0 ?_ ?_
    · exact ⟨rfl, Nat.zero_le _, rfl, ⟨rfl, rfl, rfl, trivial⟩⟩
    · rintro k ρ O ⟨rfl, hk, he, hH⟩
      obtain ⟨ρ0, rfl⟩ := hH.elim
      clear hH
      refine T.seq ?_
      refine T.seq ?_
      refine T.region ?_
      refine TO.quiet (q_move rfl) ?_
      refine TO.quiet (q_move rfl) ?_
      refine TO.quiet (q_len Tryd.underlying22 rfl) ?_
      refine TO.quiet (q_lss rfl rfl) ?_
      refine TO.nil ?_
      refine T.condP rfl (fun hc => ?_) (fun hc => ?_)
      · have hlt : k < rs.length := by omega
        have hlt2 : k < ss.length := by omega
        obtain ⟨vb1, vc1, g1, s1⟩ := hr1.get hlt
        obtain ⟨vb2, vc2, g2, s2⟩ := hr2.get hlt2
        obtain ⟨kb1, ko1, rfl⟩ := h1.addr (i := k) (by rw [hr1.1]; exact hlt)
        obtain ⟨kb2, ko2, rfl⟩ := h2.addr (i := k) (by rw [hr2.1]; exact hlt2)
        refine T.skip ?_
        refine T.seq ?_
        refine T.block ?_
        refine T.seq ?_
        refine T.draws _ [(0, 0), (1, 0), (2, 0), (3, 0), (4, 0), (5, 0), (6, 0), (7, 0), (8, 2), (9, 2)] mixed (by kernel_rfl) (Sub.of (List.Sublist.refl _)) (fun _ _ _ h => h) ?_
        refine DO.quiet rfl (q_move rfl) ?_
        refine DO.quiet rfl (q_move rfl) ?_
        refine DO.quiet rfl (q_idx Tryd.underlying22 inf33 rfl rfl hlt) ?_
        refine DO.quiet rfl (q_load_sl Tryd.underlying33 rfl rfl h1 g1) ?_
        refine DO.quiet rfl (q_move rfl) ?_
        refine DO.quiet rfl (q_move rfl) ?_
        refine DO.quiet rfl (q_idx Tryd.underlying22 inf33 rfl rfl hlt2) ?_
        refine DO.quiet rfl (q_load_sl Tryd.underlying33 rfl rfl h2 g2) ?_
        have hk25 := fun (w1 : World) (hI : Inv w [] w1) => equalInts w1 vb1 vb2 vc1 vc2 rs[k] ss[k] (hI.sl s1) (hI.sl s2) (hbr _ (List.getElem_mem hlt))
        refine DO.last rfl rfl (l_call ent21 (CallT.of_pure hk25) rfl ?_)
        clear hk25
        rintro v O' ⟨N, rfl, rfl, rfl⟩
        refine DO.last rfl rfl (LT.of_quiet rfl rfl (q_not rfl) ?_)
        refine DO.done ?_
        refine T.condP (p := ¬ rs[k] = ss[k]) (congrArg Value.bool (by simp)) (fun hc => ?_) (fun hc => ?_)
        · refine T.seq ?_
          refine T.region ?_
          refine TO.quiet (q_assign rfl) ?_
          refine TO.nil ?_
          refine T.ret ?_
          refine Res.one (.bool false) Tryd.results46 rfl ?_
          exact ⟨congrArg Value.bool (decide_eq_false (fun e => hc (by subst e; rfl))).symm, rfl⟩
        · refine T.skip ?_
          refine T.region ?_
          refine TO.quiet (q_move rfl) ?_
          refine TO.quiet (q_inc rfl rfl (by omega)) ?_
          refine TO.quiet (q_assign rfl) ?_
          refine TO.nil ?_
          refine ⟨k + 1, by omega, rfl, by omega, ?_, ⟨rfl, rfl, rfl, trivial⟩⟩
          rw [List.take_succ_eq_append_getElem hlt, List.take_succ_eq_append_getElem hlt2, he]
          exact congrArg _ (congrArg (fun z => [z]) (Classical.not_not.1 hc))
      · refine T.exit ?_
        refine T.seq ?_
        refine T.region ?_
        refine TO.quiet (q_assign rfl) ?_
        refine TO.nil ?_
        refine T.ret ?_
        refine Res.one (.bool true) Tryd.results46 rfl ?_
        exact ⟨congrArg Value.bool (decide_eq_true (show rs = ss by rw [List.take_of_length_le (by omega), List.take_of_length_le (by omega)] at he; exact he)).symm, rfl⟩

set_option maxHeartbeats 1000000 in
set_option maxRecDepth 20000 in
theorem equalDFA (w : World) (d e : DFA) (nb1 nb2 fb1 fb2 : Option Addr) (nc1 nc2 fc1 fc2 : Nat) (vs us : List Value) (h1 : DfaAt w d nb1 vs fb1) (h2 : DfaAt w e nb2 us fb2) (hb : d.next.length < 9223372036854775807) (hbr : ∀ r ∈ d.next, r.length < 9223372036854775807) (hbf : d.final.length < 9223372036854775807) :
    PureT Tryd.prog 20 [.agg (dfaCells d nb1 nc1 fb1 fc1).toArray, .agg (dfaCells e nb2 nc2 fb2 fc2).toArray] w fun v N => v = .bool (decide (d = e)) ∧ True := by
  refine CallT.enter Tryd.func20 rfl Tryd.ntmps20 rfl ?_
  refine T.seq ?_
  refine T.region ?_
  refine TO.loud rfl (l_box (v := (.agg #[(.int .i64 d.vars), (.int .i64 d.start), (.slice nb1 d.next.length nc1), (.slice fb1 d.final.length fc1)])) (cs := [(.int .i64 d.vars), (.int .i64 d.start), (.slice nb1 d.next.length nc1), (.slice fb1 d.final.length fc1)]) rfl rfl (fun b1 => ?_))
  refine TO.loud rfl (l_box (v := (.agg #[(.int .i64 e.vars), (.int .i64 e.start), (.slice nb2 e.next.length nc2), (.slice fb2 e.final.length fc2)])) (cs := [(.int .i64 e.vars), (.int .i64 e.start), (.slice nb2 e.next.length nc2), (.slice fb2 e.final.length fc2)]) rfl rfl (fun b2 => ?_))
  refine TO.quiet (q_assign rfl) ?_
  refine TO.nil ?_
  refine T.seq ?_
  refine T.region ?_
  refine TO.quiet (q_fieldAddr Tryd.underlying25 rfl inf3 rfl rfl) ?_
  refine TO.quiet (q_load_box 1 Tryd.underlying3 rfl rfl rfl rfl) ?_
  refine TO.quiet (q_fieldAddr Tryd.underlying25 rfl inf3 rfl rfl) ?_
  refine TO.quiet (q_load_box 0 Tryd.underlying3 rfl rfl rfl rfl) ?_
  by_cases e1 : d.vars = e.vars
  · refine TO.quiet (QT.toB (q_eql rfl rfl) (decide_eq_true e1)) ?_
    refine TO.quiet (q_move rfl) ?_
    refine TO.guarded rfl rfl rfl (LT.of_quiet rfl rfl (q_fieldAddr Tryd.underlying25 rfl inf3 rfl rfl) ?_)
    refine TO.guarded rfl rfl rfl (LT.of_quiet rfl rfl (q_load_box 1 Tryd.underlying3 rfl rfl rfl rfl) ?_)
    refine TO.guarded rfl rfl rfl (LT.of_quiet rfl rfl (q_fieldAddr Tryd.underlying25 rfl inf3 rfl rfl) ?_)
    refine TO.guarded rfl rfl rfl (LT.of_quiet rfl rfl (q_load_box 0 Tryd.underlying3 rfl rfl rfl rfl) ?_)
    by_cases e2 : d.start = e.start
    · refine TO.guarded rfl rfl rfl (LT.of_quiet rfl rfl (QT.toB (q_eql rfl rfl) (decide_eq_true e2)) ?_)
      refine TO.quiet (q_pick1 rfl rfl) ?_
      refine TO.quiet (q_move rfl) ?_
      refine TO.guarded rfl rfl rfl (LT.of_quiet rfl rfl (q_fieldAddr Tryd.underlying25 rfl inf22 rfl rfl) ?_)
      refine TO.guarded rfl rfl rfl (LT.of_quiet rfl rfl (q_load_box 1 Tryd.underlying22 rfl rfl rfl rfl) ?_)
      refine TO.guarded rfl rfl rfl (LT.of_quiet rfl rfl (q_fieldAddr Tryd.underlying25 rfl inf22 rfl rfl) ?_)
      refine TO.guarded rfl rfl rfl (LT.of_quiet rfl rfl (q_load_box 0 Tryd.underlying22 rfl rfl rfl rfl) ?_)
      by_cases e3 : d.next = e.next
      · have hk22 := fun (w1 : World) (hI : Inv w [objI b2 (.cells [(.int .i64 e.vars), (.int .i64 e.start), (.slice nb2 e.next.length nc2), (.slice fb2 e.final.length fc2)].toArray 25 (0, 0)), objI b1 (.cells [(.int .i64 d.vars), (.int .i64 d.start), (.slice nb1 d.next.length nc1), (.slice fb1 d.final.length fc1)].toArray 25 (0, 0))] w1) => equalRows w1 nb1 nb2 nc1 nc2 vs us d.next e.next (hI.sl h1.outer) (hI.rows h1.rows) (hI.sl h2.outer) (hI.rows h2.rows) hb hbr
        refine TO.guarded rfl rfl rfl (l_call ent46 (CallT.of_pure hk22) rfl ?_)
        clear hk22
        rintro v O' ⟨N, rfl, rfl, rfl⟩
        rw [decide_eq_true e3]
        refine TO.quiet (q_pick1 rfl rfl) ?_
        refine TO.quiet (q_move rfl) ?_
        refine TO.guarded rfl rfl rfl (LT.of_quiet rfl rfl (q_fieldAddr Tryd.underlying25 rfl inf23 rfl rfl) ?_)
        refine TO.guarded rfl rfl rfl (LT.of_quiet rfl rfl (q_load_box 1 Tryd.underlying23 rfl rfl rfl rfl) ?_)
        refine TO.guarded rfl rfl rfl (LT.of_quiet rfl rfl (q_fieldAddr Tryd.underlying25 rfl inf23 rfl rfl) ?_)
        refine TO.guarded rfl rfl rfl (LT.of_quiet rfl rfl (q_load_box 0 Tryd.underlying23 rfl rfl rfl rfl) ?_)
        by_cases e4 : d.final = e.final
        · have hk29 := fun (w1 : World) (hI : Inv w [objI b2 (.cells [(.int .i64 e.vars), (.int .i64 e.start), (.slice nb2 e.next.length nc2), (.slice fb2 e.final.length fc2)].toArray 25 (0, 0)), objI b1 (.cells [(.int .i64 d.vars), (.int .i64 d.start), (.slice nb1 d.next.length nc1), (.slice fb1 d.final.length fc1)].toArray 25 (0, 0))] w1) => equalBools w1 fb1 fb2 fc1 fc2 d.final e.final (hI.sl h1.final) (hI.sl h2.final) hbf
          refine TO.guarded rfl rfl rfl (l_call ent47 (CallT.of_pure hk29) rfl ?_)
          clear hk29
          rintro v O' ⟨N, rfl, rfl, rfl⟩
          rw [decide_eq_true e4]
          refine TO.quiet (q_pick1 rfl rfl) ?_
          refine TO.quiet (q_assign rfl) ?_
          refine TO.nil ?_
          refine T.ret ?_
          refine Res.one (.bool true) Tryd.results20 rfl ?_
          refine ⟨congrArg Value.bool (decide_eq_true ?_).symm, trivial⟩
          cases d; cases e; simp only at e1 e2 e3 e4; rw [e1, e2, e3, e4]
        · have hk29 := fun (w1 : World) (hI : Inv w [objI b2 (.cells [(.int .i64 e.vars), (.int .i64 e.start), (.slice nb2 e.next.length nc2), (.slice fb2 e.final.length fc2)].toArray 25 (0, 0)), objI b1 (.cells [(.int .i64 d.vars), (.int .i64 d.start), (.slice nb1 d.next.length nc1), (.slice fb1 d.final.length fc1)].toArray 25 (0, 0))] w1) => equalBools w1 fb1 fb2 fc1 fc2 d.final e.final (hI.sl h1.final) (hI.sl h2.final) hbf
          refine TO.guarded rfl rfl rfl (l_call ent47 (CallT.of_pure hk29) rfl ?_)
          clear hk29
          rintro v O' ⟨N, rfl, rfl, rfl⟩
          rw [decide_eq_false e4]
          refine TO.quiet (q_pick1 rfl rfl) ?_
          refine TO.quiet (q_assign rfl) ?_
          refine TO.nil ?_
          refine T.ret ?_
          refine Res.one (.bool false) Tryd.results20 rfl ?_
          exact ⟨congrArg Value.bool (decide_eq_false (fun q => e4 (congrArg DFA.final q))).symm, trivial⟩
      · have hk22 := fun (w1 : World) (hI : Inv w [objI b2 (.cells [(.int .i64 e.vars), (.int .i64 e.start), (.slice nb2 e.next.length nc2), (.slice fb2 e.final.length fc2)].toArray 25 (0, 0)), objI b1 (.cells [(.int .i64 d.vars), (.int .i64 d.start), (.slice nb1 d.next.length nc1), (.slice fb1 d.final.length fc1)].toArray 25 (0, 0))] w1) => equalRows w1 nb1 nb2 nc1 nc2 vs us d.next e.next (hI.sl h1.outer) (hI.rows h1.rows) (hI.sl h2.outer) (hI.rows h2.rows) hb hbr
        refine TO.guarded rfl rfl rfl (l_call ent46 (CallT.of_pure hk22) rfl ?_)
        clear hk22
        rintro v O' ⟨N, rfl, rfl, rfl⟩
        rw [decide_eq_false e3]
        refine TO.quiet (q_pick1 rfl rfl) ?_
        refine TO.quiet (q_move rfl) ?_
        refine TO.passed rfl rfl ?_
        refine TO.passed rfl rfl ?_
        refine TO.passed rfl rfl ?_
        refine TO.passed rfl rfl ?_
        refine TO.passed rfl rfl ?_
        refine TO.quiet (q_pick0 rfl rfl) ?_
        refine TO.quiet (q_assign rfl) ?_
        refine TO.nil ?_
        refine T.ret ?_
        refine Res.one (.bool false) Tryd.results20 rfl ?_
        exact ⟨congrArg Value.bool (decide_eq_false (fun q => e3 (congrArg DFA.next q))).symm, trivial⟩
    · refine TO.guarded rfl rfl rfl (LT.of_quiet rfl rfl (QT.toB (q_eql rfl rfl) (decide_eq_false e2)) ?_)
      refine TO.quiet (q_pick1 rfl rfl) ?_
      refine TO.quiet (q_move rfl) ?_
      refine TO.passed rfl rfl ?_
      refine TO.passed rfl rfl ?_
      refine TO.passed rfl rfl ?_
      refine TO.passed rfl rfl ?_
      refine TO.passed rfl rfl ?_
      refine TO.quiet (q_pick0 rfl rfl) ?_
      refine TO.quiet (q_move rfl) ?_
      refine TO.passed rfl rfl ?_
      refine TO.passed rfl rfl ?_
      refine TO.passed rfl rfl ?_
      refine TO.passed rfl rfl ?_
      refine TO.passed rfl rfl ?_
      refine TO.quiet (q_pick0 rfl rfl) ?_
      refine TO.quiet (q_assign rfl) ?_
      refine TO.nil ?_
      refine T.ret ?_
      refine Res.one (.bool false) Tryd.results20 rfl ?_
      exact ⟨congrArg Value.bool (decide_eq_false (fun q => e2 (congrArg DFA.start q))).symm, trivial⟩
  · refine TO.quiet (QT.toB (q_eql rfl rfl) (decide_eq_false e1)) ?_
    refine TO.quiet (q_move rfl) ?_
    refine TO.passed rfl rfl ?_
    refine TO.passed rfl rfl ?_
    refine TO.passed rfl rfl ?_
    refine TO.passed rfl rfl ?_
    refine TO.passed rfl rfl ?_
    refine TO.quiet (q_pick0 rfl rfl) ?_
    refine TO.quiet (q_move rfl) ?_
    refine TO.passed rfl rfl ?_
    refine TO.passed rfl rfl ?_
    refine TO.passed rfl rfl ?_
    refine TO.passed rfl rfl ?_
    refine TO.passed rfl rfl ?_
    refine TO.quiet (q_pick0 rfl rfl) ?_
    refine TO.quiet (q_move rfl) ?_
    refine TO.passed rfl rfl ?_
    refine TO.passed rfl rfl ?_
    refine TO.passed rfl rfl ?_
    refine TO.passed rfl rfl ?_
    refine TO.passed rfl rfl ?_
    refine TO.quiet (q_pick0 rfl rfl) ?_
    refine TO.quiet (q_assign rfl) ?_
    refine TO.nil ?_
    refine T.ret ?_
    refine Res.one (.bool false) Tryd.results20 rfl ?_
    exact ⟨congrArg Value.bool (decide_eq_false (fun q => e1 (congrArg DFA.vars q))).symm, trivial⟩

set_option maxHeartbeats 1000000 in
set_option maxRecDepth 20000 in
theorem copyRows (w : World) (b1 : Option Addr) (c1 : Nat) (vs : List Value) (rs : List (List Int)) (h1 : Sl w b1 vs) (hr1 : RowsR w vs rs) (hb : rs.length * 24 ≤ 70368744177664) (hbr : ∀ r ∈ rs, r.length * 8 ≤ 70368744177664) :
    PureT Tryd.prog 38 [.slice b1 rs.length c1] w fun v N => ∃ b c qs, v = .slice b rs.length c ∧ N = rowI b c 33 1 (vals qs) :: itms 3 qs ∧ nums qs = rs := by
  refine CallT.enter Tryd.func38 rfl Tryd.ntmps38 rfl ?_
  refine T.seq ?_
  refine T.region ?_
  refine TO.quiet (q_assign rfl) ?_
  refine TO.nil ?_
  refine T.seq ?_
  refine T.region ?_
  refine TO.quiet (q_assign rfl) ?_
  refine TO.nil ?_
  refine T.seq ?_
  refine T.seq ?_
  refine T.region ?_
  refine TO.quiet (q_assign rfl) ?_
  refine TO.nil ?_
  refine T.block ?_
  refine T.nilRow 33 1 ?_
  refine T.loop (fun (k : Nat) ρ O => ∃ (qs : List Rec) (ob : Option Addr) (oc : Nat), O = ([rowI ob oc 33 1 (vals qs)] ++ itms 3 qs) ∧ k ≤ rs.length ∧ qs.length = k ∧ nums qs = rs.take k ∧ Heads [(0, (.slice b1 rs.length c1)), (2, (.slice none 0 0)), (3, (.slice ob k oc)), (4, .int .i64 (k : Int))] ρ) (fun k => rs.length - k) 0 ?_ ?_
  · exact ⟨[], none, 0, rfl, Nat.zero_le _, rfl, rfl, ⟨rfl, rfl, rfl, rfl, trivial⟩⟩
  · rintro k ρ O ⟨qs, ob, oc, rfl, hk, hql, hqs, hH⟩
    obtain ⟨ρ0, rfl⟩ := hH.elim
    clear hH
    refine T.seq ?_
    refine T.seq ?_
    refine T.region ?_
    refine TO.quiet (q_move rfl) ?_
    refine TO.quiet (q_move rfl) ?_
    refine TO.quiet (q_len Tryd.underlying22 rfl) ?_
    refine TO.quiet (q_lss rfl rfl) ?_
    refine TO.nil ?_
    refine T.condP rfl (fun hc => ?_) (fun hc => ?_)
    · have hlt : k < rs.length := by omega
      obtain ⟨vb1, vc1, g1, s1⟩ := hr1.get hlt
      obtain ⟨kb1, ko1, rfl⟩ := h1.addr (i := k) (by rw [hr1.1]; exact hlt)
      have hbk := hbr _ (List.getElem_mem hlt)
      refine T.skip ?_
      refine T.seq ?_
      refine T.block ?_
      refine T.region ?_
      refine TO.quiet (q_move rfl) ?_
      refine TO.quiet (q_move rfl) ?_
      refine TO.quiet (q_move rfl) ?_
      refine TO.quiet (q_idx Tryd.underlying22 inf33 rfl rfl hlt) ?_
      refine TO.quiet (q_load_sl Tryd.underlying33 rfl rfl h1 g1) ?_
      have hk16 := fun (w1 : World) (hI : Inv w ([rowI ob oc 33 1 (vals qs)] ++ itms 3 qs) w1) => copyInts w1 vb1 vc1 rs[k] (hI.sl s1) hbk
      refine TO.loud rfl (l_call ent57 (CallT.of_pure hk16) rfl ?_)
      clear hk16
      rintro v O' ⟨N, rfl, cb, cc, rfl, rfl⟩
      refine TO.loud rfl (l_build1 (v := (.slice cb rs[k].length cc)) Tryd.underlying22 inf33 rfl rfl rfl (fun b1 => ?_))
      refine TO.loud rfl (l_append 2 Tryd.underlying22 Tryd.underlying22 inf33 rfl rfl rfl rfl (by simp [hql]) (by decide) (Src.row (j := 0) rfl (by simp)) (by simp [oneB]) (by omega) (by decide) (by decide) (fun b2 c3 => ?_))
      refine TO.quiet (q_assign rfl) ?_
      refine TO.nil ?_
      refine T.sub (O' := rowI b2 c3 33 1 (vals (qs ++ [⟨cb, cc, rs[k]⟩])) :: itms 3 (qs ++ [⟨cb, cc, rs[k]⟩])) (by rw [show vals qs ++ [Value.slice cb rs[k].length cc] = vals (qs ++ [⟨cb, cc, rs[k]⟩]) by simp [Rec.val]]; simp only [itms, List.map_append]; exact sub_push') ?_
      refine T.region ?_
      refine TO.quiet (q_move rfl) ?_
      refine TO.quiet (q_inc rfl rfl (by omega)) ?_
      refine TO.quiet (q_assign rfl) ?_
      refine TO.nil ?_
      refine ⟨k + 1, by omega, qs ++ [⟨cb, cc, rs[k]⟩], _, _, rfl, by omega, by simp [hql], ?_, ⟨rfl, rfl, rfl, rfl, trivial⟩⟩
      rw [List.take_succ_eq_append_getElem hlt, ← hqs]; simp [nums]
    · refine T.exit ?_
      refine T.seq ?_
      refine T.region ?_
      refine TO.quiet (q_move rfl) ?_
      refine TO.quiet (q_assign rfl) ?_
      refine TO.nil ?_
      refine T.ret ?_
      refine Res.one (.slice ob k oc) Tryd.results38 rfl ?_
      have hke : k = rs.length := by omega
      subst hke
      exact ⟨ob, oc, qs, rfl, rfl, by rw [hqs, List.take_of_length_le (Nat.le_refl _)]⟩

set_option maxHeartbeats 1000000 in
set_option maxRecDepth 20000 in
theorem copyDFA (w : World) (d : DFA) (nb fb : Option Addr) (nc fc : Nat) (vs : List Value) (h : DfaAt w d nb vs fb) (hb : d.next.length * 24 ≤ 70368744177664) (hbr : ∀ r ∈ d.next, r.length * 8 ≤ 70368744177664) (hbf : d.final.length * 1 ≤ 70368744177664) :
    PureT Tryd.prog 13 [.agg (dfaCells d nb nc fb fc).toArray] w fun v N => ∃ nb' nc' fb' fc' qs, v = .agg (dfaCells d nb' nc' fb' fc').toArray ∧ N = [rowI nb' nc' 33 1 (vals qs), rowI fb' fc' 4 1 (bools d.final)] ++ itms 3 qs ∧ nums qs = d.next := by
  refine CallT.enter Tryd.func13 rfl Tryd.ntmps13 rfl ?_
  refine T.seq ?_
  refine T.region ?_
  refine TO.loud rfl (l_box (v := (.agg #[(.int .i64 d.vars), (.int .i64 d.start), (.slice nb d.next.length nc), (.slice fb d.final.length fc)])) (cs := [(.int .i64 d.vars), (.int .i64 d.start), (.slice nb d.next.length nc), (.slice fb d.final.length fc)]) rfl rfl (fun b1 => ?_))
  refine TO.loud rfl (l_alloc inf25 rfl (fun b2 => ?_))
  refine TO.nil ?_
  refine T.seq ?_
  refine T.draws _ [(0, 0), (1, 0), (2, 0), (3, 0), (4, 0), (5, 0), (7, 0), (8, 0), (6, 1), (9, 1), (10, 0), (11, 2)] mixed (by kernel_rfl) (Sub.of (List.Sublist.refl _)) (fun _ _ _ h => h) ?_
  refine DO.quiet rfl (q_fieldAddr Tryd.underlying25 rfl inf3 rfl rfl) ?_
  refine DO.quiet rfl (q_load_box 1 Tryd.underlying3 rfl rfl rfl rfl) ?_
  refine DO.quiet rfl (q_fieldAddr Tryd.underlying25 rfl inf3 rfl rfl) ?_
  refine DO.quiet rfl (q_load_box 1 Tryd.underlying3 rfl rfl rfl rfl) ?_
  refine DO.quiet rfl (q_fieldAddr Tryd.underlying25 rfl inf22 rfl rfl) ?_
  refine DO.quiet rfl (q_load_box 1 Tryd.underlying22 rfl rfl rfl rfl) ?_
  refine DO.quiet rfl (q_fieldAddr Tryd.underlying25 rfl inf23 rfl rfl) ?_
  refine DO.quiet rfl (q_load_box 1 Tryd.underlying23 rfl rfl rfl rfl) ?_
  have hk9 := fun (w1 : World) (hI : Inv w [objI b2 (.cells [(.int .i64 0), (.int .i64 0), (.slice none 0 0), (.slice none 0 0)].toArray 25 (0, 0)), objI b1 (.cells [(.int .i64 d.vars), (.int .i64 d.start), (.slice nb d.next.length nc), (.slice fb d.final.length fc)].toArray 25 (0, 0))] w1) => copyRows w1 nb nc vs d.next (hI.sl h.outer) (hI.rows h.rows) hb hbr
  refine DO.loud rfl rfl (l_call ent38 (CallT.of_pure hk9) rfl ?_)
  clear hk9
  rintro v O' ⟨N, rfl, nb2, nc2, qs, rfl, rfl, hqs⟩
  refine ⟨Sub.cnt ([rowI nb2 nc2 33 1 (vals qs)] ++ (itms 3 qs)) (by intro a; simp only [List.set_cons_zero, List.set_cons_succ, putL, List.cons_append, List.nil_append, List.append_nil, List.append_assoc, List.map_append, List.map_cons, List.map_nil, cnt_append, cnt_cons, cnt_nil]; omega), ?_⟩
  refine DO.sub (O' := ([rowI nb2 nc2 33 1 (vals qs), objI b2 (.cells [(.int .i64 0), (.int .i64 0), (.slice none 0 0), (.slice none 0 0)].toArray 25 (0, 0)), objI b1 (.cells [(.int .i64 d.vars), (.int .i64 d.start), (.slice nb d.next.length nc), (.slice fb d.final.length fc)].toArray 25 (0, 0))] ++ (itms 3 qs))) (Sub.cnt [] (by intro a; simp only [List.set_cons_zero, List.set_cons_succ, putL, List.cons_append, List.nil_append, List.append_nil, List.append_assoc, List.map_append, List.map_cons, List.map_nil, cnt_append, cnt_cons, cnt_nil]; omega)) ?_
  have hk12 := fun (w1 : World) (hI : Inv w ([rowI nb2 nc2 33 1 (vals qs), objI b2 (.cells [(.int .i64 0), (.int .i64 0), (.slice none 0 0), (.slice none 0 0)].toArray 25 (0, 0)), objI b1 (.cells [(.int .i64 d.vars), (.int .i64 d.start), (.slice nb d.next.length nc), (.slice fb d.final.length fc)].toArray 25 (0, 0))] ++ (itms 3 qs)) w1) => copyBools w1 fb fc d.final (hI.sl h.final) hbf
  refine DO.loud rfl rfl (l_call ent39 (CallT.of_pure hk12) rfl ?_)
  clear hk12
  rintro v O' ⟨N, rfl, fb2, fc2, rfl, rfl⟩
  refine ⟨Sub.cnt ([rowI fb2 fc2 4 1 (bools d.final), rowI nb2 nc2 33 1 (vals qs)] ++ (itms 3 qs)) (by intro a; simp only [List.set_cons_zero, List.set_cons_succ, putL, List.cons_append, List.nil_append, List.append_nil, List.append_assoc, List.map_append, List.map_cons, List.map_nil, cnt_append, cnt_cons, cnt_nil]; omega), ?_⟩
  refine DO.quiet rfl (q_build plan25 inf25 rfl) ?_
  refine DO.last rfl rfl (l_store_box (v := (.agg #[(.int .i64 d.vars), (.int .i64 d.start), (.slice nb2 d.next.length nc2), (.slice fb2 d.final.length fc2)])) (vs := [(.int .i64 d.vars), (.int .i64 d.start), (.slice nb2 d.next.length nc2), (.slice fb2 d.final.length fc2)]) 2 inf25 rfl rfl rfl rfl rfl rfl (by simp) ?_)
  refine DO.done ?_
  refine T.ret ?_
  refine Res.drop ?_
  refine Res.cell1 (i := 2) Tryd.results13 Tryd.underlying25 rfl inf25 rfl rfl rfl ?_
  exact ⟨[rowI nb2 nc2 33 1 (vals qs), rowI fb2 fc2 4 1 (bools d.final)] ++ itms 3 qs, Sub.cnt [objI b2 (.cells [(.int .i64 d.vars), (.int .i64 d.start), (.slice nb2 d.next.length nc2), (.slice fb2 d.final.length fc2)].toArray 25 (0, 0)), objI b1 (.cells [(.int .i64 d.vars), (.int .i64 d.start), (.slice nb d.next.length nc), (.slice fb d.final.length fc)].toArray 25 (0, 0))] (by intro a; simp only [List.set_cons_zero, List.set_cons_succ, putL, List.cons_append, List.nil_append, List.append_nil, List.append_assoc, List.map_append, List.map_cons, List.map_nil, cnt_append, cnt_cons, cnt_nil]; omega), nb2, nc2, fb2, fc2, qs, rfl, rfl, hqs⟩
end Go.Proofs.YthfemndklplpbaaDoor
